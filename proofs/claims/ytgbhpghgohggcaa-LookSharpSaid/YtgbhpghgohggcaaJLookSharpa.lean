/- The parts that laws are proved of, joined: K27, Trod, Trod2, Trod3. No condition beside those that each theorem names. -/
import Derived.Deep.Slices
import Derived.OpenShut
import Derived.Below
import Derived.ChangeOld
import Derived.ProofKit
import Derived.SizedLaws
import Derived.Test.YtgbhpghgohggcaaJS3a
namespace Go.Proofs.Ytgbhpghgohggcaa
open Go.RowKit
theorem wp_store_elc {P:Program} {ty:TypeId} {w:World} {o:Oper} {a:Act} {K:Act→World→Prop} {Q:Exit→Act→World→Prop} (d s:Operand) (ho:o.op=.store ty d s)
  {α:Type} {T:Ty α} {c:CM} {base e g n cap i j p:Nat} {l:List α} {x x':α} {v:Value} (hd:a.eval d=.pointer (some ⟨g,p,none⟩)) (hs:a.eval s=v) (hv:v.cells=[v].toArray) (hp:p=i*T.size+j)
  (hown:OwnC T c w base e (.slice (some ⟨g,0,none⟩) n cap) l) (hn:n=l.length) (hil:l[i]? =some x) (hj:j<T.size) (hR:∀cs,T.R c cs x→T.R c (cs.set j v) x') (hi:(P.info? ty).map (·.size)=some 1) (h1:v.oneCell'=true)
  (h:∀w',OwnC T c w' base e (.slice (some ⟨g,0,none⟩) n cap) (l.set i x')→w.grownBy w' (some g)→K (a.put o.dst undef) w'):o.wp P a w K Q:=by
 subst hn
 subst hp
 have hlt:=(List.getElem?_eq_some_iff.1 hil).1
 obtain⟨css,⟨hl,hx⟩,h2,h3⟩:=id hown
 rcases hx with⟨e0,-⟩|⟨g',cap',cur,he,hg,hrow,hnc,hcm,hcs,htake⟩
 ·cases e0
 simp only [Value.slice.injEq,Option.some.injEq,Addr.mk.injEq,and_true,true_and] at he
 obtain⟨rfl,rfl⟩:=he
 have hle:i*T.size+T.size≤l.length*T.size:=by
  have:(i+1)*T.size≤l.length*T.size:=Nat.mul_le_mul_right _ (by omega)
  rw [Nat.add_mul] at this;omega
 have hle2:l.length*T.size≤cap*T.size:=Nat.mul_le_mul_right _ hnc
 have hcur:i*T.size+j<cur.size:=by omega
 refine wp_store_cell (g:=g) (p:=i*T.size+j) d s ho hd hs hv hrow hi (by omega) h1 rfl ?_
 intro w' r' g'
 refine h w' ?_ g'
 refine(hown.cellSet rfl hil hj hR).block fun k hk=>?_
 obtain rfl:g=k:=by simpa [Value.ownBlock] using hk
 rw [r']
 simp only [World.setCell,Array.getElem?_modify,hrow]
 simp only [if_true,Option.map_some,Option.some.injEq,Obj.cells.injEq,and_true]
 apply Array.toList_inj.1
 rw [if_neg (by simp)]
 simp only [Array.toList_setIfInBounds]
 rw [List.set_eq_take_append_cons_drop,if_pos (by simpa using hcur)]
 simp
theorem wpList_store_elc {P:Program} {ty:TypeId} {ops:Array Oper} {rest:List Oper} {w:World} {o:Oper} {a:Act} {Q:Exit→Act→World→Prop} (hgd:o.guard=none) (d s:Operand) (ho:o.op=.store ty d s)
  {α:Type} {T:Ty α} {c:CM} {base e g n cap i j p:Nat} {l:List α} {x x':α} {v:Value} (hd:a.eval d=.pointer (some ⟨g,p,none⟩)) (hs:a.eval s=v) (hv:v.cells=[v].toArray) (hp:p=i*T.size+j)
  (hown:OwnC T c w base e (.slice (some ⟨g,0,none⟩) n cap) l) (hn:n=l.length) (hil:l[i]? =some x) (hj:j<T.size) (hR:∀cs,T.R c cs x→T.R c (cs.set j v) x') (hi:(P.info? ty).map (·.size)=some 1) (h1:v.oneCell'=true)
  (h:∀w',OwnC T c w' base e (.slice (some ⟨g,0,none⟩) n cap) (l.set i x')→w.grownBy w' (some g)→wpList P ops Q rest (a.put o.dst undef) w'):wpList P ops Q (o::rest) a w:=
 wpList_plain hgd fun _ hK=>wp_store_elc d s ho hd hs hv hp hown hn hil hj hR hi h1 fun w' a b=>hK _ _ (h w' a b)
theorem ints_any {c c':CM} {w:World} {base e:Nat} {v:Value} {l:List Int} (h:OwnC Ty.int c w base e v l):OwnC Ty.int c' w base e v l:=by
 obtain⟨css,h1,h2,h3⟩:=h
 exact⟨css,h1,h2,fun i cs x a b=>h3 i cs x a b⟩
theorem WI.doneLen {n:Nat} {G:Reg} {x:AW} (i:WI n G x) {k:Nat} {h:Hs} (hk:x.houses[k]? =some h):h.done.length≤1344:=by
 have hi:=i.core.house k h hk
 have hlt:∀d∈h.done,d∈(List.range 1344).map fun d:Nat=>(d:Int):=fun d hd=>by
  obtain⟨r,hr,e,-⟩:=hi.done d hd
  have:=i.core.deed (i.core.dec.reg r hr)
  exact List.mem_map.2 ⟨d.toNat,List.mem_range.2 (by omega),by omega⟩
 have h9:=len_le hi.nodup hlt
 simpa using h9
theorem info_ints1:(Try.prog.info? 27).map (·.size)=some 1:=by kernel_rfl
theorem hs_setA {c:CM} {h:Hs} {u:Int} (hu:I64 u):∀cs,Ty.hs.R c cs h→Ty.hs.R c (cs.set 1 (.int .i64 u)) { h with sums:={ h.sums with a:=u } }:=by
 rintro cs ⟨v1,v2,v3,rfl,h1,-,h3,h4,h5,h6,h7⟩
 exact⟨v1,v2,v3,rfl,h1,hu,h3,h4,h5,h6,h7⟩
theorem hs_setD {c:CM} {h:Hs} {v:Value} {l:List Int} (hv:Ints c v l):∀cs,Ty.hs.R c cs h→Ty.hs.R c (cs.set 6 v) { h with done:=l }:=by
 rintro cs ⟨v1,v2,v3,rfl,h1,h2,h3,h4,h5,h6,h7⟩
 exact⟨v1,v2,v,rfl,h1,h2,h3,h4,h5,h6,hv⟩
set_option maxRecDepth 100000 in
set_option maxHeartbeats 8000000 in
theorem lookSharp_walk {n0 k0 at0 x0:Int} {v:Value} {l:List St} (w:World) (_hn:I64 n0) (hv:Sl Ty.st w.cell? v l) (_hs:l.length*40≤140737488351232) (_hk:I64 k0) (_ha:I64 at0) (hx0:I64 x0):
  Calls Try.prog 24 #[.int .i64 n0,v,.int .i64 k0,.int .i64 at0,.int .i64 x0] w fun e w'=>e=.returned (.bool true)∧Grow w w':=by
 have HPL0:=η (fun(n:Nat) (hn:1≤n∧n≤3) (W:World) (hW:Grow w W)=>ref_play (l:=l) W hn (hv.mono hW.sub))
 obtain⟨a1,c1,rfl,-⟩:=hv
 by_cases hlo:n0<1
 ·clear HPL0
  go_enter Try.func24,Try.ntmps24
  go_wp2_with fail
  refine(alive11 _).mono ?_
  rintro e w1 ⟨rfl,hb1⟩
  go_wp2
  go_ret
  exact⟨rfl,hb1⟩
 by_cases hhi:3<n0
 ·clear HPL0
  go_enter Try.func24,Try.ntmps24
  go_wp2_with fail
  refine(alive11 _).mono ?_
  rintro e w1 ⟨rfl,hb1⟩
  go_wp2
  go_ret
  exact⟨rfl,hb1⟩
 by_cases ha0:at0<0
 ·clear HPL0
  go_enter Try.func24,Try.ntmps24
  go_wp2_with fail
  refine(alive11 _).mono ?_
  rintro e w1 ⟨rfl,hb1⟩
  go_wp2
  go_ret
  exact⟨rfl,hb1⟩
 by_cases ha1:n0≤at0
 ·clear HPL0
  go_enter Try.func24,Try.ntmps24
  go_wp2_with fail
  refine(alive11 _).mono ?_
  rintro e w1 ⟨rfl,hb1⟩
  go_wp2
  go_ret
  exact⟨rfl,hb1⟩
 obtain⟨n,rfl⟩:∃n:Nat,n0=(n:Int):=⟨n0.toNat,by omega⟩
 have hn:1≤n∧n≤3:=by omega
 obtain⟨k,rfl⟩:∃k:Nat,at0=(k:Int):=⟨at0.toNat,by omega⟩
 obtain⟨G,hwi,-⟩:=WI.of_play hn (l.take 150)
 have hfw:=Few.play n (l.take 150) (Few.zero n)
 have hlp:=logP_play (l.take 150) (logP_new n)
 have HPL:=η (HPL0.o n hn)
 have hlg:(playA (newA n) (l.take 150)).head.log.length≤100000:=by have:=hfw.log;rw [List.length_take] at this;omega
 clear hfw HPL0
 have HLG:=η hlg
 have HLP:=η hlp
 have HWI:=η hwi
 clear hlg hlp hwi
 generalize playA (newA n) (l.take 150)=x at*
 have HLN:Hid (x.houses.length=n):=η HWI.o.core.len
 have HN3:=η hn
 go_enter Try.func24,Try.ntmps24
 go_wp2_with fail
 refine(alive11 _).mono ?_
 rintro e w1 ⟨rfl,hb1⟩
 have G1:=η hb1
 clear hb1
 go_wp2_with fail
 refine(HPL.o _ G1.o).mono ?_
 rintro e w2 ⟨v2,v3,rfl,hx2,hes,hb2⟩
 obtain⟨al,cl,ao,co,ah,ch,an,cn,rfl⟩:=hx2.wd_form
 have HX2:=η hx2
 have HB2:=η (G1.o.trans hb2)
 have HXP:=η hx2.wd_parts
 clear hx2 hes hb2 HPL
 go_upto_region 6 with fail
 obtain⟨w3,hw3⟩:∃y:World,y=w2.alloc (.cells #[.slice al x.head.log.length cl,.int .i64 x.head.boot,.int .i64 x.head.next,.slice ao x.head.opn.length co,.slice ah x.houses.length ch,.slice an x.net.length cn] 93):=⟨_,rfl⟩
 obtain⟨B5,hB5⟩:∃y,y=w2.heap.size:=⟨_,rfl⟩
 have G23:Hid (Grow w2 w3):=η (by rw [hw3];exact(Grow.refl _).alloc _)
 have R5:Hid (w3.heap[B5]? =some (.cells #[.slice al x.head.log.length cl,.int .i64 x.head.boot,.int .i64 x.head.next,.slice ao x.head.opn.length co,.slice ah x.houses.length ch,.slice an x.net.length cn] 93 (0,0))):=η (by rw [hw3,hB5];exact row_new _ _)
 have HB5:=η hB5
 rw [←hw3,←hB5]
 clear hw3 hB5
 obtain⟨d0,d1,d2,d3,d4,d5⟩:=cells6 R5.o
 have z5:B5<w3.heap.size:=(γ R5.o)
 go_wp2_with (first|(at_builtin;refine wpList_appc (c:=w2.cell?) (base:=w3.heap.size) (l:=[]) (m:=x.houses) (v:=.slice (some ⟨w3.heap.size,0,none⟩) 0 0) ei_hs rfl one_Ths (by decide) rfl (.tmp 37) (.tmp 39) rfl rfl (OwnC.made0 Ty.hs _ _ _ _ ?c1 ?c1') rfl ?src ?c3 ?c4 ?_))
 case c1=>exact Nat.le_refl _
 case c1'=>rfl
 case src=>exact Src.of_sl_c (by decide) (G23.o.alloc _).sub HXP.o.2.1
 case c3=>have:=HLN.o;(try simp);omega
 case c4=>(try simp)
 intro a6 c6 w6 ho6 hg6 hb6
 try simp only [List.length_nil,Nat.zero_add,List.nil_append] at ho6
 try simp only [List.length_nil,Nat.zero_add]
 have G36:Hid (Grow w3 w6):=η (grow_by (w0:=w3) ((Grow.refl w3).alloc _) hg6 (own_at (Nat.le_refl _)))
 have HO6:=η ho6
 have R56:=η (row_grow R5.o G36.o)
 clear ho6 hg6 hb6 d0 d1 d2 d3 d4 d5 z5
 go_wp2_with (first|(refine wpList_store_cell rfl (.tmp 41) (.tmp 40) (v:=.slice a6 x.houses.length c6) (new:=#[.slice al x.head.log.length cl,.int .i64 x.head.boot,.int .i64 x.head.next,.slice ao x.head.opn.length co,.slice a6 x.houses.length c6,.slice an x.net.length cn]) rfl rfl (by rfl) (by rfl) R56.o info_hss (by simp) (by rfl) (by rfl) ?_))
 intro w7 r7 g7
 have R57:=η r7
 have HZ5:Hid (B5<w3.heap.size∧w2.heap.size≤B5):=η ⟨(γ R5.o),by rw [HB5.o];exact Nat.le_refl _⟩
 have HO7:=η (HO6.o.kept g7 (own_apart HO6.o (by have:=HZ5.o;omega)))
 have G27:Hid (Grow w2 w7):=η ((G23.o.trans G36.o).grown g7 (fun q hq=>by have:=Option.some.inj hq;have:=HZ5.o;omega))
 have HZ7:Hid (w3.heap.size≤w7.heap.size):=η (by have:=G36.o.size;have:=g7.size;omega)
 clear r7 g7 HO6 R56
 have hkl:k<x.houses.length:=by rw [HLN.o];omega
 have HDL:Hid (x.houses[k].done.length≤1344):=η (HWI.o.doneLen (List.getElem?_eq_getElem hkl))
 have HKH:Hid (x.houses[k]? =some x.houses[k]):=η (List.getElem?_eq_getElem hkl)
 obtain⟨gh,cs,rfl,hRh,hAh⟩:=HO7.o.get (by decide) k hkl
 obtain⟨vl9,vr9,vd9,rfl,hl9,i1,i2,i3,i4,hr9,hd9⟩:=hRh
 obtain⟨ad,cd,rfl,-⟩:=id hd9
 have s1:=hAh 1 _ rfl
 have s6:=hAh 6 _ rfl
 simp only [show Ty.hs.size=7 from rfl] at s1 s6
 have HS1:=η s1
 have HS6:=η s6
 have HHD:=η hd9
 have HGH:Hid (w3.heap.size≤gh∧gh<w7.heap.size):=η (HO7.o.lt gh rfl)
 have hkz:(k:Int)<(x.houses.length:Int):=by omega
 clear s1 s6 hAh hd9 hl9 hr9 i1 i2 i3 i4
 generalize x.houses[k]=h at*
 obtain⟨d0,d1,d2,d3,d4,d5⟩:=cells6 R57.o
 have z5:B5<w7.heap.size:=(γ R57.o)
 go_upto_region 8 with fail
 clear d0 d1 d2 d3 d4 d5 z5 ha0 ha1 hlo hhi
 have HEND:Hid (∀(h':Hs) (c:CM) (W:World),¬WholeP (decidedR x.head.log) (x.houses.set k h')→Grow w2 W→Sub c W.cell?→OwnC Ty.hs c W w3.heap.size 29 (.slice (some ⟨gh,0,none⟩) x.houses.length c6) (x.houses.set k h')→
   Calls Try.prog 99 #[.agg #[.slice al x.head.log.length cl,.int .i64 x.head.boot,.int .i64 x.head.next,.slice ao x.head.opn.length co,.slice (some ⟨gh,0,none⟩) x.houses.length c6,.slice an x.net.length cn]] W fun e w'=>e=.returned (.bool false)∧Grow W w'):=η (fun h' c W hn hg hc ho=>by
  have hx:Of Ty.wd W.cell? (.agg #[.slice al x.head.log.length cl,.int .i64 x.head.boot,.int .i64 x.head.next,.slice ao x.head.opn.length co,.slice (some ⟨gh,0,none⟩) x.houses.length c6,.slice an x.net.length cn]) { x with houses:=x.houses.set k h' }:=Of.wd_mk (HXP.o.1.mono hg.sub) (ho.sl (by decide) hc) (HXP.o.2.2.mono hg.sub)
  refine(look_whole W hx (by rw [List.length_set,HLN.o];exact HN3.o.2) HLG.o (HWI.o.logLen HLP.o) HWI.o.decKeys).mono ?_
  rintro e w' ⟨b,rfl,hb,hgr⟩
  refine⟨?_,hgr⟩
  cases b with
  |false=>rfl
  |true=>exact absurd (hb.1 rfl) hn)
 by_cases hk0:k0=0
 ·have t0:(k0==0)=true:=by simp [hk0]
  clear hk0
  by_cases he:h.sums.a=x0
  ·have t1:(h.sums.a==x0)=true:=by simp [he]
   have s1:=HS1.o
   have zg:gh<w7.heap.size:=HGH.o.2
   clear he
   go_wp2
   go_ret
   exact⟨rfl,HB2.o.trans G27.o⟩
  ·have t1:(h.sums.a==x0)=false:=by simp [he]
   have HNW:=η (HWI.o.sharp0 HKH.o he)
   have s1:=HS1.o
   have zg:gh<w7.heap.size:=HGH.o.2
   clear he
   go_wp2_with (first|(refine wpList_store_elc rfl (.tmp 60) (.tmp 57) (i:=k) (j:=1) rfl rfl (by rfl) (by rfl) (by first|rfl|(simp;done)) HO7.o rfl HKH.o (by decide) (hs_setA hx0) info_int1 (by rfl) ?_))
   intro w8 ho8 g8
   have HOF:=η ho8
   have R5F:=η (row_by R57.o g8 (fun e=>by have:=Option.some.inj e;have:=HGH.o;have:=HZ5.o;omega))
   have GF:Hid (Grow w2 w8):=η (G27.o.grown g8 (fun q hq=>by have:=Option.some.inj hq;have:=HGH.o;have:=HZ5.o;omega))
   have HCF:Hid (Sub w2.cell? w8.cell?):=η (sub_box (W:=w2) (by have:=HGH.o;have:=HZ5.o;omega) G27.o g8)
   clear ho8 g8 s1 zg
   obtain⟨d0,d1,d2,d3,d4,d5⟩:=cells6 R5F.o
   have z5:B5<w8.heap.size:=(γ R5F.o)
   go_wp2_with fail
   refine(HEND.o _ _ w8 HNW.o GF.o HCF.o HOF.o).mono ?_
   rintro e wf ⟨rfl,hbf⟩
   clear d0 d1 d2 d3 d4 d5 z5
   go_wp2
   go_ret
   exact⟨rfl,HB2.o.trans (GF.o.trans hbf)⟩
 have t0:(k0==0)=false:=by simp [hk0]
 by_cases hk1:k0=1
 ·have t1:(k0==1)=true:=by simp [hk1]
  have HNW:=η (HWI.o.sharp1 HKH.o)
  have s6:=HS6.o
  have zg:gh<w7.heap.size:=HGH.o.2
  clear hk0 hk1
  go_wp2_with (first|(at_builtin;refine wpList_appc (c:=w7.cell?) (base:=w7.heap.size) (l:=[]) (m:=h.done) (v:=.slice (some ⟨w7.heap.size,0,none⟩) 0 0) ei_int rfl one_Tint (by decide) rfl (.tmp 64) (.tmp 68) rfl rfl (OwnC.made0 Ty.int _ _ _ _ ?c1 ?c1') rfl ?src ?c3 ?c4 ?_))
  case c1=>exact Nat.le_refl _
  case c1'=>rfl
  case src=>exact Src.of_sl_c (by decide) (((Grow.refl w7).alloc _).sub) (HHD.o.mono G27.o.sub)
  case c3=>have:=HDL.o;(try simp);omega
  case c4=>(try simp)
  intro a8 c8 w8 ho8 hg8 hb8
  try simp only [List.length_nil,Nat.zero_add,List.nil_append] at ho8
  try simp only [List.length_nil,Nat.zero_add]
  have G78:Hid (Grow w7 w8):=η (grow_by (w0:=w7) ((Grow.refl w7).alloc _) hg8 (own_at (Nat.le_refl _)))
  have HO8:=η ho8
  clear ho8 hg8 hb8 s6 zg
  go_wp2_with (first|(at_builtin;refine wpList_appc (c:=w7.cell?) (base:=w7.heap.size) (l:=h.done) (m:=[1349]) (v:=.slice a8 h.done.length c8) ei_int rfl one_Tint (by decide) rfl (.tmp 69) (.tmp 70) rfl rfl (HO8.o.grow ((Grow.refl _).alloc _)) rfl (Src.of_new (T:=Ty.int) (x:=(1349:Int)) (cs:=#[.int .i64 1349]) ⟨rfl,i64_of (by omega) (by omega)⟩ _ _ (by rfl)) ?c3 ?c4 ?_))
  case c3=>have:=HDL.o;(try simp);omega
  case c4=>have:=G78.o.size;(try simp);omega
  intro a9 c9 w9 ho9 hg9 hb9
  try simp only [List.length_cons,List.length_nil,Nat.zero_add] at ho9
  try simp only [List.length_cons,List.length_nil,Nat.zero_add]
  have HO9:=η ho9
  have G79:Hid (Grow w7 w9):=η ((G78.o.alloc _).grown hg9 (fun q hq=>(HO8.o.lt q hq).1))
  clear ho9 hg9 hb9
  have HDN:Hid (Ints (wo gh w9.cell?) (.slice a9 (h.done.length+1) c9) (h.done++ [1349])):=η ((ints_any (c':=fun _=>none) HO9.o).slc (by decide) (fun _ _ e=>by cases e) (fun a ha=>by
   unfold wo
   rw [if_neg (by have:=HGH.o;omega)]))
  have HOE:Hid (OwnC Ty.hs (wo gh w9.cell?) w9 w3.heap.size 29 (.slice (some ⟨gh,0,none⟩) x.houses.length c6) x.houses):=η ((HO7.o.mono ((wo_lt (Sub.refl w2.cell?) (by have:=HGH.o;have:=HZ5.o;omega)).trans (wo_mono (G27.o.trans G79.o).sub))).grow G79.o)
  have R59:=η (row_grow R57.o G79.o)
  go_wp2_with (first|(refine wpList_store_elc rfl (.tmp 73) (.tmp 71) (i:=k) (j:=6) rfl rfl (by rfl) (by rfl) (by first|rfl|(simp;done)) HOE.o rfl HKH.o (by decide) (hs_setD HDN.o) info_ints1 (by rfl) ?_))
  intro w10 ho10 g10
  have HOF:=η ho10
  have R5F:=η (row_by R59.o g10 (fun e=>by have:=Option.some.inj e;have:=HGH.o;have:=HZ5.o;omega))
  have GF:Hid (Grow w2 w10):=η ((G27.o.trans G79.o).grown g10 (fun q hq=>by have:=Option.some.inj hq;have:=HGH.o;have:=HZ5.o;omega))
  have HCF:Hid (Sub (wo gh w9.cell?) w10.cell?):=η (fun a v e=>by unfold wo at e;split at e;(cases e);exact cell_past e g10 (by assumption))
  clear ho10 g10
  obtain⟨d0,d1,d2,d3,d4,d5⟩:=cells6 R5F.o
  have z5:B5<w10.heap.size:=(γ R5F.o)
  go_wp2_with fail
  refine(HEND.o _ _ w10 HNW.o GF.o HCF.o HOF.o).mono ?_
  rintro e wf ⟨rfl,hbf⟩
  clear d0 d1 d2 d3 d4 d5 z5
  go_wp2
  go_ret
  exact⟨rfl,HB2.o.trans (GF.o.trans hbf)⟩
 have t1:(k0==1)=false:=by simp [hk1]
 by_cases hk2:k0=2
 ·have t2:(k0==2)=true:=by simp [hk2]
  clear hk0 hk1 hk2
  by_cases hd0:h.done=[]
  ·have hl0:((h.done.length:Int)==0)=true:=by rw [hd0];rfl
   have s6:=HS6.o
   have zg:gh<w7.heap.size:=HGH.o.2
   clear hd0
   go_wp2
   go_ret
   exact⟨rfl,HB2.o.trans G27.o⟩
  ·have hlp:0<h.done.length:=by
    cases e:h.done with
    |nil=>exact absurd e hd0
    |cons a b=>simp
   have hl0:((h.done.length:Int)==0)=false:=by simp;omega
   obtain⟨ad',cd',he',-,-,-,hdel⟩:=HHD.o
   obtain⟨rfl,rfl⟩:ad=ad'∧cd=cd':=by simpa using he'
   clear he'
   obtain⟨bd,od,rfl,t00,-⟩:=intAt hdel 0 hlp
   have HDM:Hid (h.done[0]∈h.done):=η (List.getElem_mem hlp)
   have HDI:Hid (I64 h.done[0]):=η (intAt hdel 0 hlp).choose_spec.choose_spec.2.2
   have HT0:=η (G27.o.sub _ _ t00)
   have HNW:=η (HWI.o.sharp2 HKH.o HDM.o)
   clear hdel t00 hd0
   generalize h.done[0]=d at*
   have HSD:Hid (∀W,Grow w7 W→Src Ty.int w7.cell? W (.slice (some ⟨bd,od,none⟩) h.done.length cd) h.done):=η (fun W hW=>Src.of_sl_c (by decide) hW.sub (HHD.o.mono G27.o.sub))
   have HS:Hid (∀W,Grow w7 W→W.cell? ⟨gh,k*7+6,none⟩=some (.slice (some ⟨bd,od,none⟩) h.done.length cd)∧W.cell? ⟨bd,od,none⟩=some (.int .i64 d)):=fun W hW=>⟨hW.sub _ _ HS6.o,hW.sub _ _ HT0.o⟩
   have zg:gh<w7.heap.size:=HGH.o.2
   have s6:=HS6.o
   go_upto_region 19 with fail
   clear s6
   refine bSc (fun w'=>w'.cell? ⟨gh,k*7+6,none⟩=some (.slice (some ⟨bd,od,none⟩) h.done.length cd)∧w'.cell? ⟨bd,od,none⟩=some (.int .i64 d)) [17] (by kernel_rfl) ?_
   intro wd GD zD
   have ZD:=η zD
   clear zD
   refine bLc [0,2,3,4,5,7,8,9,10,11,12] 20 (by kernel_rfl) (fun _ _ _ _ _ h=>h) (HS.o _ GD) ?_
   repeat (refine tNc (v:=?_) rfl (by rfl) ?_ ?_;rotate_left;(· (intro w' hSw;(try dsimp only at hSw);obtain⟨hs0,hs1⟩:=hSw;go_simp<;>with_reducible rfl));try simp only [Act.put,lzA,lzB,lzC,lzD,lzE,lzF])
   refine tEc ?_
   refine bPc 1 13 (by kernel_rfl) rfl rfl ?_ ?_
   ·intro K HK
    try simp only [lzA,lzB,lzC]
    go_simp
    obtain⟨wA,hwA⟩:∃zq:World,zq=wd.alloc (.cells #[] 3):=⟨_,rfl⟩
    obtain⟨BA,hBA⟩:∃zq,zq=wd.heap.size:=⟨_,rfl⟩
    have HOA:Hid (OwnC Ty.int w7.cell? wA w7.heap.size 3 (.slice (some ⟨BA,0,none⟩) 0 0) []):=η (by rw [hwA];exact OwnC.made0 Ty.int _ _ _ _ ((GD).size) hBA)
    have GA1:Hid (Grow wd wA):=η (by rw [hwA];exact(Grow.refl _).alloc _)
    have GA:=η (Grow.trans GD GA1.o)
    have HBA:=η (And.intro (show BA=wd.heap.size from hBA) ((GD).size))
    rw [←hwA,←hBA]
    clear hwA hBA
    refine HK.o _ _ ⟨.inr (HS.o _ GA.o),?_⟩
    clear HK K
    try simp only [Act.put,lzA,lzB,lzC,lzD,lzE,lzF]
    refine bPc 6 13 (by kernel_rfl) rfl rfl ?_ ?_
    ·intro K HK
     refine wanted_go rfl ?_
     try simp only [lzA,lzB,lzC]
     refine wp_appc (c:=w7.cell?) (base:=w7.heap.size) (l:=[]) (m:=h.done) (v:=.slice (some ⟨BA,0,none⟩) 0 0) ei_int rfl one_Tint (by decide) (.tmp 83) (.tmp 87) rfl rfl (HOA.o) rfl (HSD.o _ GA.o) (by have:=HDL.o;(try simp);omega) ((GA.o).size) ?_
     intro a8 c8 wC ho8 hg8 hb8
     try simp only [List.length_nil,Nat.zero_add,List.nil_append] at ho8
     try simp only [List.length_nil,Nat.zero_add]
     have GC:=η (grow_by (w0:=w7) GA.o hg8 (own_at (by have:=HBA.o;omega)))
     have HO8:=η ho8
     clear ho8 hg8 hb8
     refine HK.o _ _ ⟨.inr (HS.o _ GC.o),?_⟩
     clear HK K
     try simp only [Act.put,lzD,lzE,lzF]
     refine bOc 13 (by kernel_rfl) rfl ?_
     intro K HK
     try simp only [lzA,lzB,lzC]
     go_simp
     obtain⟨wB,hwB⟩:∃zq:World,zq=wC.alloc (.cells #[.int .i64 d] 3):=⟨_,rfl⟩
     obtain⟨BB,hBB⟩:∃zq,zq=wC.heap.size:=⟨_,rfl⟩
     have HSB:Hid (Src Ty.int w7.cell? wB (.slice (some ⟨BB,0,none⟩) 1 1) [d]):=η (by rw [hwB];exact Src.of_new (T:=Ty.int) (x:=d) (cs:=#[.int .i64 d]) ⟨rfl,HDI.o⟩ _ _ hBB)
     have GB1:Hid (Grow wC wB):=η (by rw [hwB];exact(Grow.refl _).alloc _)
     have GB:=η (Grow.trans GC.o GB1.o)
     have HBB:=η (And.intro (show BB=wC.heap.size from hBB) (show wB.heap.size=wC.heap.size+1 by rw [hwB];simp))
     rw [←hwB,←hBB]
     clear hwB hBB
     refine HK.o _ _ ⟨.inr (HS.o _ GB.o),?_⟩
     clear HK K
     try simp only [Act.put,lzA,lzB,lzC,lzD,lzE,lzF]
     refine bOc 14 (by kernel_rfl) rfl ?_
     intro K HK
     refine wanted_go rfl ?_
     try simp only [lzA,lzB,lzC]
     refine wp_appc (c:=w7.cell?) (base:=w7.heap.size) (l:=h.done) (m:=[d]) (v:=.slice a8 h.done.length c8) ei_int rfl one_Tint (by decide) (.tmp 88) (.tmp 95) rfl rfl ((HO8.o.grow GB1.o)) rfl (HSB.o) (by have:=HDL.o;(try simp);omega) ((GB.o).size) ?_
     intro a9 c9 w9 ho9 hg9 hb9
     try simp only [List.length_cons,List.length_nil,Nat.zero_add] at ho9
     try simp only [List.length_cons,List.length_nil,Nat.zero_add]
     have G79:=η (Grow.grown GB.o hg9 (fun q hq=>(HO8.o.lt q hq).1))
     have HO9:=η ho9
     clear ho9 hg9 hb9
     have HDN:Hid (Ints (wo gh w9.cell?) (.slice a9 (h.done.length+1) c9) (h.done++ [d])):=η ((ints_any (c':=fun _=>none) HO9.o).slc (by decide) (fun _ _ e=>by cases e) (fun a ha=>by
      unfold wo
      rw [if_neg (by have:=HGH.o;omega)]))
     have HOE:Hid (OwnC Ty.hs (wo gh w9.cell?) w9 w3.heap.size 29 (.slice (some ⟨gh,0,none⟩) x.houses.length c6) x.houses):=η ((HO7.o.mono ((wo_lt (Sub.refl w2.cell?) (by have:=HGH.o;have:=HZ5.o;omega)).trans (wo_mono (G27.o.trans G79.o).sub))).grow G79.o)
     have R59:=η (row_grow R57.o G79.o)
     refine HK.o _ _ ⟨.inr (HS.o _ G79.o),?_⟩
     clear HK K
     try simp only [Act.put,lzD,lzE,lzF]
     refine bLc [15,16] 20 (by kernel_rfl) (fun _ _ _ _ _ h=>h) (HS.o _ G79.o) ?_
     repeat (refine tNc (v:=?_) rfl (by rfl) ?_ ?_;rotate_left;(· (intro w' hSw;(try dsimp only at hSw);obtain⟨hs0,hs1⟩:=hSw;go_simp<;>with_reducible rfl));try simp only [Act.put,lzA,lzB,lzC,lzD,lzE,lzF])
     refine tEc ?_
     refine bOc 17 (by kernel_rfl) rfl ?_
     intro K HK
     refine wanted_go rfl ?_
     try simp only [lzA,lzB,lzC]
     refine wp_store_elc (.tmp 98) (.tmp 96) (i:=k) (j:=6) rfl rfl (by rfl) (by rfl) (by first|rfl|(simp;done)) HOE.o rfl HKH.o (by decide) (hs_setD HDN.o) info_ints1 (by rfl) ?_
     intro w10 ho10 g10
     refine HK.o _ _ ⟨.inl (by decide),?_⟩
     clear HK K
     try simp only [Act.put]
     refine bDc (by kernel_rfl) ?_
     have HOF:=η ho10
     have R5F:=η (row_by R59.o g10 (fun e=>by have:=Option.some.inj e;have:=HGH.o;have:=HZ5.o;omega))
     have GF:Hid (Grow w2 w10):=η ((G27.o.trans G79.o).grown g10 (fun q hq=>by have:=Option.some.inj hq;have:=HGH.o;have:=HZ5.o;omega))
     have HCF:Hid (Sub (wo gh w9.cell?) w10.cell?):=η (fun a v e=>by unfold wo at e;split at e;(cases e);exact cell_past e g10 (by assumption))
     clear ho10 g10
     obtain⟨d0,d1,d2,d3,d4,d5⟩:=cells6 R5F.o
     have z5:B5<w10.heap.size:=(γ R5F.o)
     go_wp2_with fail
     refine(HEND.o _ _ w10 HNW.o GF.o HCF.o HOF.o).mono ?_
     rintro e wf ⟨rfl,hbf⟩
     clear d0 d1 d2 d3 d4 d5 z5
     go_wp2
     go_ret
     exact⟨rfl,HB2.o.trans (GF.o.trans hbf)⟩
    ·intro K HK
     try simp only [lzA,lzB,lzC]
     go_simp
     obtain⟨wB,hwB⟩:∃zq:World,zq=wA.alloc (.cells #[.int .i64 d] 3):=⟨_,rfl⟩
     obtain⟨BB,hBB⟩:∃zq,zq=wA.heap.size:=⟨_,rfl⟩
     have HSB:Hid (Src Ty.int w7.cell? wB (.slice (some ⟨BB,0,none⟩) 1 1) [d]):=η (by rw [hwB];exact Src.of_new (T:=Ty.int) (x:=d) (cs:=#[.int .i64 d]) ⟨rfl,HDI.o⟩ _ _ hBB)
     have GB1:Hid (Grow wA wB):=η (by rw [hwB];exact(Grow.refl _).alloc _)
     have GB:=η (Grow.trans GA.o GB1.o)
     have HBB:=η (And.intro (show BB=wA.heap.size from hBB) (show wB.heap.size=wA.heap.size+1 by rw [hwB];simp))
     rw [←hwB,←hBB]
     clear hwB hBB
     refine HK.o _ _ ⟨.inr (HS.o _ GB.o),?_⟩
     clear HK K
     try simp only [Act.put,lzA,lzB,lzC,lzD,lzE,lzF]
     refine bOc 6 (by kernel_rfl) rfl ?_
     intro K HK
     refine wanted_go rfl ?_
     try simp only [lzA,lzB,lzC]
     have HNE:Hid (BB≠BA):=η (by have h1:=HBA.o;have h2:=HBB.o;have h3:=HOA.o.lt BA rfl;omega)
     refine wp_appc (c:=w7.cell?) (base:=w7.heap.size) (l:=[]) (m:=h.done) (v:=.slice (some ⟨BA,0,none⟩) 0 0) ei_int rfl one_Tint (by decide) (.tmp 83) (.tmp 87) rfl rfl ((HOA.o.grow GB1.o)) rfl (HSD.o _ GB.o) (by have:=HDL.o;(try simp);omega) ((GB.o).size) ?_
     intro a8 c8 wC ho8 hg8 hb8
     try simp only [List.length_nil,Nat.zero_add,List.nil_append] at ho8
     try simp only [List.length_nil,Nat.zero_add]
     have GC:=η (grow_by (w0:=w7) GB.o hg8 (own_at (by have:=HBA.o;omega)))
     have HO8:=η ho8
     have HSC:=η (HSB.o.kept hg8 (fun e=>HNE.o (Option.some.inj (show some BB=some BA from e))))
     clear ho8 hg8 hb8
     refine HK.o _ _ ⟨.inr (HS.o _ GC.o),?_⟩
     clear HK K
     try simp only [Act.put,lzD,lzE,lzF]
     refine bOc 14 (by kernel_rfl) rfl ?_
     intro K HK
     refine wanted_go rfl ?_
     try simp only [lzA,lzB,lzC]
     refine wp_appc (c:=w7.cell?) (base:=w7.heap.size) (l:=h.done) (m:=[d]) (v:=.slice a8 h.done.length c8) ei_int rfl one_Tint (by decide) (.tmp 88) (.tmp 95) rfl rfl (HO8.o) rfl (HSC.o) (by have:=HDL.o;(try simp);omega) ((GC.o).size) ?_
     intro a9 c9 w9 ho9 hg9 hb9
     try simp only [List.length_cons,List.length_nil,Nat.zero_add] at ho9
     try simp only [List.length_cons,List.length_nil,Nat.zero_add]
     have G79:=η (Grow.grown GC.o hg9 (fun q hq=>(HO8.o.lt q hq).1))
     have HO9:=η ho9
     clear ho9 hg9 hb9
     have HDN:Hid (Ints (wo gh w9.cell?) (.slice a9 (h.done.length+1) c9) (h.done++ [d])):=η ((ints_any (c':=fun _=>none) HO9.o).slc (by decide) (fun _ _ e=>by cases e) (fun a ha=>by
      unfold wo
      rw [if_neg (by have:=HGH.o;omega)]))
     have HOE:Hid (OwnC Ty.hs (wo gh w9.cell?) w9 w3.heap.size 29 (.slice (some ⟨gh,0,none⟩) x.houses.length c6) x.houses):=η ((HO7.o.mono ((wo_lt (Sub.refl w2.cell?) (by have:=HGH.o;have:=HZ5.o;omega)).trans (wo_mono (G27.o.trans G79.o).sub))).grow G79.o)
     have R59:=η (row_grow R57.o G79.o)
     refine HK.o _ _ ⟨.inr (HS.o _ G79.o),?_⟩
     clear HK K
     try simp only [Act.put,lzD,lzE,lzF]
     refine bLc [15,16] 20 (by kernel_rfl) (fun _ _ _ _ _ h=>h) (HS.o _ G79.o) ?_
     repeat (refine tNc (v:=?_) rfl (by rfl) ?_ ?_;rotate_left;(· (intro w' hSw;(try dsimp only at hSw);obtain⟨hs0,hs1⟩:=hSw;go_simp<;>with_reducible rfl));try simp only [Act.put,lzA,lzB,lzC,lzD,lzE,lzF])
     refine tEc ?_
     refine bOc 17 (by kernel_rfl) rfl ?_
     intro K HK
     refine wanted_go rfl ?_
     try simp only [lzA,lzB,lzC]
     refine wp_store_elc (.tmp 98) (.tmp 96) (i:=k) (j:=6) rfl rfl (by rfl) (by rfl) (by first|rfl|(simp;done)) HOE.o rfl HKH.o (by decide) (hs_setD HDN.o) info_ints1 (by rfl) ?_
     intro w10 ho10 g10
     refine HK.o _ _ ⟨.inl (by decide),?_⟩
     clear HK K
     try simp only [Act.put]
     refine bDc (by kernel_rfl) ?_
     have HOF:=η ho10
     have R5F:=η (row_by R59.o g10 (fun e=>by have:=Option.some.inj e;have:=HGH.o;have:=HZ5.o;omega))
     have GF:Hid (Grow w2 w10):=η ((G27.o.trans G79.o).grown g10 (fun q hq=>by have:=Option.some.inj hq;have:=HGH.o;have:=HZ5.o;omega))
     have HCF:Hid (Sub (wo gh w9.cell?) w10.cell?):=η (fun a v e=>by unfold wo at e;split at e;(cases e);exact cell_past e g10 (by assumption))
     clear ho10 g10
     obtain⟨d0,d1,d2,d3,d4,d5⟩:=cells6 R5F.o
     have z5:B5<w10.heap.size:=(γ R5F.o)
     go_wp2_with fail
     refine(HEND.o _ _ w10 HNW.o GF.o HCF.o HOF.o).mono ?_
     rintro e wf ⟨rfl,hbf⟩
     clear d0 d1 d2 d3 d4 d5 z5
     go_wp2
     go_ret
     exact⟨rfl,HB2.o.trans (GF.o.trans hbf)⟩
   ·intro K HK
    try simp only [lzA,lzB,lzC]
    go_simp
    obtain⟨wB,hwB⟩:∃zq:World,zq=wd.alloc (.cells #[.int .i64 d] 3):=⟨_,rfl⟩
    obtain⟨BB,hBB⟩:∃zq,zq=wd.heap.size:=⟨_,rfl⟩
    have HSB:Hid (Src Ty.int w7.cell? wB (.slice (some ⟨BB,0,none⟩) 1 1) [d]):=η (by rw [hwB];exact Src.of_new (T:=Ty.int) (x:=d) (cs:=#[.int .i64 d]) ⟨rfl,HDI.o⟩ _ _ hBB)
    have GB1:Hid (Grow wd wB):=η (by rw [hwB];exact(Grow.refl _).alloc _)
    have GB:=η (Grow.trans GD GB1.o)
    have HBB:=η (And.intro (show BB=wd.heap.size from hBB) (show wB.heap.size=wd.heap.size+1 by rw [hwB];simp))
    rw [←hwB,←hBB]
    clear hwB hBB
    refine HK.o _ _ ⟨.inr (HS.o _ GB.o),?_⟩
    clear HK K
    try simp only [Act.put,lzA,lzB,lzC,lzD,lzE,lzF]
    refine bOc 1 (by kernel_rfl) rfl ?_
    intro K HK
    try simp only [lzA,lzB,lzC]
    go_simp
    obtain⟨wA,hwA⟩:∃zq:World,zq=wB.alloc (.cells #[] 3):=⟨_,rfl⟩
    obtain⟨BA,hBA⟩:∃zq,zq=wB.heap.size:=⟨_,rfl⟩
    have HOA:Hid (OwnC Ty.int w7.cell? wA w7.heap.size 3 (.slice (some ⟨BA,0,none⟩) 0 0) []):=η (by rw [hwA];exact OwnC.made0 Ty.int _ _ _ _ ((GB.o).size) hBA)
    have GA1:Hid (Grow wB wA):=η (by rw [hwA];exact(Grow.refl _).alloc _)
    have GA:=η (Grow.trans GB.o GA1.o)
    have HBA:=η (And.intro (show BA=wB.heap.size from hBA) ((GB.o).size))
    rw [←hwA,←hBA]
    clear hwA hBA
    refine HK.o _ _ ⟨.inr (HS.o _ GA.o),?_⟩
    clear HK K
    try simp only [Act.put,lzA,lzB,lzC,lzD,lzE,lzF]
    refine bOc 6 (by kernel_rfl) rfl ?_
    intro K HK
    refine wanted_go rfl ?_
    try simp only [lzA,lzB,lzC]
    have HNE:Hid (BB≠BA):=η (by have h1:=HBA.o;have h2:=HBB.o;have h3:=HOA.o.lt BA rfl;omega)
    refine wp_appc (c:=w7.cell?) (base:=w7.heap.size) (l:=[]) (m:=h.done) (v:=.slice (some ⟨BA,0,none⟩) 0 0) ei_int rfl one_Tint (by decide) (.tmp 83) (.tmp 87) rfl rfl (HOA.o) rfl (HSD.o _ GA.o) (by have:=HDL.o;(try simp);omega) ((GA.o).size) ?_
    intro a8 c8 wC ho8 hg8 hb8
    try simp only [List.length_nil,Nat.zero_add,List.nil_append] at ho8
    try simp only [List.length_nil,Nat.zero_add]
    have GC:=η (grow_by (w0:=w7) GA.o hg8 (own_at (by have:=HBA.o;omega)))
    have HO8:=η ho8
    have HSC:=η ((HSB.o.grow GA1.o).kept hg8 (fun e=>HNE.o (Option.some.inj (show some BB=some BA from e))))
    clear ho8 hg8 hb8
    refine HK.o _ _ ⟨.inr (HS.o _ GC.o),?_⟩
    clear HK K
    try simp only [Act.put,lzD,lzE,lzF]
    refine bOc 14 (by kernel_rfl) rfl ?_
    intro K HK
    refine wanted_go rfl ?_
    try simp only [lzA,lzB,lzC]
    refine wp_appc (c:=w7.cell?) (base:=w7.heap.size) (l:=h.done) (m:=[d]) (v:=.slice a8 h.done.length c8) ei_int rfl one_Tint (by decide) (.tmp 88) (.tmp 95) rfl rfl (HO8.o) rfl (HSC.o) (by have:=HDL.o;(try simp);omega) ((GC.o).size) ?_
    intro a9 c9 w9 ho9 hg9 hb9
    try simp only [List.length_cons,List.length_nil,Nat.zero_add] at ho9
    try simp only [List.length_cons,List.length_nil,Nat.zero_add]
    have G79:=η (Grow.grown GC.o hg9 (fun q hq=>(HO8.o.lt q hq).1))
    have HO9:=η ho9
    clear ho9 hg9 hb9
    have HDN:Hid (Ints (wo gh w9.cell?) (.slice a9 (h.done.length+1) c9) (h.done++ [d])):=η ((ints_any (c':=fun _=>none) HO9.o).slc (by decide) (fun _ _ e=>by cases e) (fun a ha=>by
     unfold wo
     rw [if_neg (by have:=HGH.o;omega)]))
    have HOE:Hid (OwnC Ty.hs (wo gh w9.cell?) w9 w3.heap.size 29 (.slice (some ⟨gh,0,none⟩) x.houses.length c6) x.houses):=η ((HO7.o.mono ((wo_lt (Sub.refl w2.cell?) (by have:=HGH.o;have:=HZ5.o;omega)).trans (wo_mono (G27.o.trans G79.o).sub))).grow G79.o)
    have R59:=η (row_grow R57.o G79.o)
    refine HK.o _ _ ⟨.inr (HS.o _ G79.o),?_⟩
    clear HK K
    try simp only [Act.put,lzD,lzE,lzF]
    refine bLc [15,16] 20 (by kernel_rfl) (fun _ _ _ _ _ h=>h) (HS.o _ G79.o) ?_
    repeat (refine tNc (v:=?_) rfl (by rfl) ?_ ?_;rotate_left;(· (intro w' hSw;(try dsimp only at hSw);obtain⟨hs0,hs1⟩:=hSw;go_simp<;>with_reducible rfl));try simp only [Act.put,lzA,lzB,lzC,lzD,lzE,lzF])
    refine tEc ?_
    refine bOc 17 (by kernel_rfl) rfl ?_
    intro K HK
    refine wanted_go rfl ?_
    try simp only [lzA,lzB,lzC]
    refine wp_store_elc (.tmp 98) (.tmp 96) (i:=k) (j:=6) rfl rfl (by rfl) (by rfl) (by first|rfl|(simp;done)) HOE.o rfl HKH.o (by decide) (hs_setD HDN.o) info_ints1 (by rfl) ?_
    intro w10 ho10 g10
    refine HK.o _ _ ⟨.inl (by decide),?_⟩
    clear HK K
    try simp only [Act.put]
    refine bDc (by kernel_rfl) ?_
    have HOF:=η ho10
    have R5F:=η (row_by R59.o g10 (fun e=>by have:=Option.some.inj e;have:=HGH.o;have:=HZ5.o;omega))
    have GF:Hid (Grow w2 w10):=η ((G27.o.trans G79.o).grown g10 (fun q hq=>by have:=Option.some.inj hq;have:=HGH.o;have:=HZ5.o;omega))
    have HCF:Hid (Sub (wo gh w9.cell?) w10.cell?):=η (fun a v e=>by unfold wo at e;split at e;(cases e);exact cell_past e g10 (by assumption))
    clear ho10 g10
    obtain⟨d0,d1,d2,d3,d4,d5⟩:=cells6 R5F.o
    have z5:B5<w10.heap.size:=(γ R5F.o)
    go_wp2_with fail
    refine(HEND.o _ _ w10 HNW.o GF.o HCF.o HOF.o).mono ?_
    rintro e wf ⟨rfl,hbf⟩
    clear d0 d1 d2 d3 d4 d5 z5
    go_wp2
    go_ret
    exact⟨rfl,HB2.o.trans (GF.o.trans hbf)⟩
 have t2:(k0==2)=false:=by simp [hk2]
 clear hk0 hk1 hk2
 go_wp2
 go_ret
 exact⟨rfl,HB2.o.trans G27.o⟩
end Go.Proofs.Ytgbhpghgohggcaa
namespace Go.Proofs.Ytgbhpghgohggcaa
open Go.RowKit Go.ChangeShapes Go.WideShapes Go.ChangeAt
def Reads {α:Type} (P:Program) (t:TypeId) (T:Ty α):Prop:=∀(H:Type) (enc:TypeId×Value→H) (W:World) (fuel:Nat) (cs:List Value) (x:DataW H×List MemPlace),
 DataW.trod enc P W 0 (fun _=>true) true fuel t cs=some x→∃y,T.R W.cell? cs y
theorem reads_int {P:Program} {t:TypeId} (ht:P.underlying t=some (.int .i64)):Reads P t Ty.int:=by
 intro H enc W fuel cs x h
 obtain⟨n,rfl,_,hw⟩:=DataW.trod_int ht h
 exact⟨n,rfl,hw⟩
theorem reads_sl {α:Type} {P:Program} {t e:TypeId} {T:Ty α} (hR:Reads P e T) (ht:P.underlying t=some (.slice e)) (hc:P.cellsOf e=T.size) (h0:0<T.size):Reads P t T.sl:=by
 intro H enc W fuel cs x h
 rcases Deep.open_slice ht h with⟨rfl,_⟩|⟨a,len,cap,m,n,D,Pl,rfl,_,hl,hm,hmm,hxe,hx⟩
 ·exact⟨[],_,rfl,none,0,rfl,Nat.le_refl _,Nat.zero_le _,fun _=>rfl,fun i x e=>by simp at e⟩
 ·simp only [if_true] at hmm
  subst m
  have h2:∀i,i<len→∃(p:List Value×α),T.R W.cell? p.1 p.2∧W.cells? 0 (a.add (i*T.size)) T.size=some p.1:=by
   intro i hi
   obtain⟨cs',h1,h2⟩:=hx i (by omega)
   obtain⟨y,hy⟩:=hR H enc W n cs' _ h2
   rw [hc] at h1
   exact⟨(cs',y),hy,h1⟩
  have h3:∃l:List α,l.length=len∧∀i y,l[i]? =some y→∃cs',T.R W.cell? cs' y∧W.cells? 0 (a.add (i*T.size)) T.size=some cs':=by
   clear hx hl h hxe
   induction len with
   |zero=>exact⟨[],rfl,by simp⟩
   |succ len ih=>
    obtain⟨l,hl,hi⟩:=ih (by intro i hi;exact h2 i (by omega))
    obtain⟨⟨cs',y⟩,hy,h1⟩:=h2 len (by omega)
    refine⟨l++ [y],by simp [hl],fun i z hz=>?_⟩
    rcases Nat.lt_or_ge i l.length with hlt|hge
    ·rw [List.getElem?_append_left hlt] at hz;exact hi i z hz
    ·have hb:=(List.getElem?_eq_some_iff.1 hz).1
     simp at hb
     obtain rfl:i=len:=by omega
     rw [List.getElem?_append_right hge,hl] at hz
     simp at hz
     subst hz
     exact⟨cs',hy,h1⟩
  obtain⟨l,hlen,hl2⟩:=h3
  refine⟨l,_,rfl,some a,cap,by rw [hlen],by omega,hm,by simp,fun i y hy=>?_⟩
  obtain⟨cs',hR',hcs⟩:=hl2 i y hy
  obtain⟨_,hlen',hat⟩:=World.cells?_some hcs
  have hpos:0<l.length:=by have:=(List.getElem?_eq_some_iff.1 hy).1;omega
  obtain⟨cs0,_,hcs0⟩:=hl2 0 l[0] (List.getElem?_eq_getElem hpos)
  obtain⟨_,hlen0,hat0⟩:=World.cells?_some hcs0
  have hfirst:=hat0 0 h0
  rw [List.getElem?_eq_getElem (by omega)] at hfirst
  have hsp:=World.cell?_spot hfirst
  obtain⟨b,o,s⟩:=a
  have hs:s=none:=by simpa [Addr.add] using hsp
  subst hs
  refine⟨b,o,cs',rfl,hR',fun j u hu=>?_⟩
  have hj:j<T.size:=by rw [←hlen'];exact(List.getElem?_eq_some_iff.1 hu).1
  have:=hat j hj
  rw [Addr.add_lit,Addr.add_lit,hu] at this
  exact this
def structOf (P:Program) (t:TypeId):Option (List (TypeId×Nat×Nat)):=
 match P.underlying t with
 |some (.struct fs)=>some (fs.toList.map fun f=>(f.type,f.offset,P.cellsOf f.type))
 |_=>none
theorem struct_fields {P:Program} {t:TypeId} {fs':List (TypeId×Nat×Nat)} (hs:structOf P t=some fs') {H:Type} {enc:TypeId×Value→H} {W:World} {fuel:Nat} {cs:List Value} {x:DataW H×List MemPlace}
  (h:DataW.trod enc P W 0 (fun _=>true) true fuel t cs=some x):cs.length=P.cellsOf t∧∀(i:Nat) (f:TypeId×Nat×Nat),fs'[i]? =some f→∃n y,DataW.trod enc P W 0 (fun _=>true) true n f.1 ((cs.drop f.2.1).take f.2.2)=some y:=by
 unfold structOf at hs
 split at hs
 ·rename_i fs hu
  obtain rfl:=Option.some.inj hs
  obtain⟨xs,n,_,_,hl,hlen,hf⟩:=DataW.trod_struct hu h
  refine⟨hl,fun i f hi=>?_⟩
  rw [List.getElem?_map] at hi
  cases hfi:fs.toList[i]? with
  |none=>rw [hfi] at hi;cases hi
  |some fd=>
   rw [hfi] at hi
   obtain rfl:=Option.some.inj hi
   have hfi':fs[i]? =some fd:=by simpa using hfi
   have hlt:i<xs.length:=by rw [hlen];exact(Array.getElem?_eq_some_iff.1 hfi').1
   have:=hf i fd hfi'
   rw [List.getElem?_eq_getElem hlt] at this
   exact⟨n,_,this⟩
 ·cases hs
theorem reads_pt:Reads Try.prog 32 Ty.pt:=by
 intro H enc W fuel cs x h
 obtain⟨hl,hf⟩:=struct_fields (fs':=[(3,0,1),(3,1,1),(3,2,1)]) (by kernel_rfl) h
 rw [show(Try.prog).cellsOf 32=3 by kernel_rfl] at hl
 match cs,hl with
 | [a,b,c],_=>
  obtain⟨_,_,h0⟩:=hf 0 _ rfl
  obtain⟨_,_,h1⟩:=hf 1 _ rfl
  obtain⟨_,_,h2⟩:=hf 2 _ rfl
  obtain⟨x0,e0,w0⟩:=reads_int (by kernel_rfl) _ _ _ _ _ _ h0
  obtain⟨x1,e1,w1⟩:=reads_int (by kernel_rfl) _ _ _ _ _ _ h1
  obtain⟨x2,e2,w2⟩:=reads_int (by kernel_rfl) _ _ _ _ _ _ h2
  refine⟨⟨x0,x1,x2⟩,?_,w0,w1,w2⟩
  simp at e0 e1 e2
  subst e0 e1 e2
  rfl
theorem reads_pts:Reads Try.prog 23 Ty.pts:=reads_sl reads_pt (by kernel_rfl) (by kernel_rfl) (by decide)
theorem arg_sl {α:Type} {P:Program} {t e:TypeId} {T:Ty α} (hR:Reads P t T.sl) (ht:P.underlying t=some (.slice e)) {H:Type} {enc:TypeId×Value→H} {W:World} {r:Reach} {b:Nat} {v:Value} {d:DataW H} {p:List MemPlace}
  (hval:Value.okWide P W r b t v) (h:DataW.Trod enc P W 0 (fun _=>true) true t v d p):∃l,Sl T W.cell? v l:=by
 obtain⟨a,len,cap,rfl⟩:=okWide_slice ht hval
 obtain⟨fuel,hf⟩:=h
 obtain⟨l,v,e,hv⟩:=hR _ _ _ _ _ _ hf
 simp [Value.cells] at e
 subst e
 exact⟨l,hv⟩
theorem own:ownKnob (Try.prog).godebug=none:=by kernel_rfl
theorem laidOut:laidOutB Try.prog=true:=by kernel_rfl
end Go.Proofs.Ytgbhpghgohggcaa
namespace Go.Proofs.Ytgbhpghgohggcaa
open Go.RowKit Go.ChangeShapes Go.WideShapes Go.ChangeAt
theorem sl_len {α:Type} {T:Ty α} {c:CM} {a:Option Addr} {n cap:Nat} {l:List α} (h:Sl T c (.slice a n cap) l):l.length=n:=by
 obtain⟨a',cap',he,_⟩:=h
 simp only [Value.slice.injEq] at he
 exact he.2.1.symm
theorem arg_size {α:Type} {P:Program} {t e:TypeId} {T:Ty α} {k:Nat} (ht:P.underlying t=some (.slice e)) (hb:P.bytesOf e=k) {H:Type} {enc:TypeId×Value→H} {W:World} {r:Reach} {b:Nat} {v:Value} {d:DataW H} {p:List MemPlace} {ts:List TypeId} {ds:List (DataW H)} {j:Nat}
  (hsz:(DataW.weightsEach P ts ds).all (· ≤reachBytes)=true) (hj:ts[j]? =some t) (hd:ds[j]? =some d)
  (hval:Value.okWide P W r b t v) (h:DataW.Trod enc P W 0 (fun _=>true) true t v d p) {l:List α} (hl:Sl T W.cell? v l):l.length*k≤140737488351232:=by
 obtain⟨a,len,cap,rfl⟩:=okWide_slice ht hval
 obtain⟨fuel,hf⟩:=h
 have hll:=sl_len hl
 rcases Deep.open_slice ht hf with⟨he,_⟩|⟨a',len',cap',m,n,D,Pl,he,_,hlc,_,hmm,hxe,_⟩
 ·simp [Value.cells] at he
  rw [hll,he.2.1];simp
 ·simp [Value.cells] at he
  obtain⟨_,rfl,rfl⟩:=he
  obtain rfl:d=.slice ((List.range len).map D) ((List.range (m - len)).map fun j=>D (len+j)):=by simpa using congrArg Prod.fst hxe
  have:=sized_slice hsz hj hd ht
  rw [hb,List.length_map,List.length_range] at this
  rw [hll]
  have h2:len*k≤(len+((List.range (m - len)).map fun j=>D (len+j)).length)*k:=Nat.mul_le_mul_right _ (Nat.le_add_right _ _)
  have h3:reachBytes=140737488351232:=rfl
  omega
theorem reads_st:Reads Try.prog 164 Ty.st:=by
 intro H enc W fuel cs x h
 obtain⟨hl,hf⟩:=struct_fields (fs':=[(3,0,1),(3,1,1),(23,2,1)]) (by kernel_rfl) h
 rw [show(Try.prog).cellsOf 164=3 by kernel_rfl] at hl
 match cs,hl with
 | [a,b,c],_=>
  obtain⟨_,_,h0⟩:=hf 0 _ rfl
  obtain⟨_,_,h1⟩:=hf 1 _ rfl
  obtain⟨_,_,h2⟩:=hf 2 _ rfl
  obtain⟨x0,e0,w0⟩:=reads_int (by kernel_rfl) _ _ _ _ _ _ h0
  obtain⟨x1,e1,w1⟩:=reads_int (by kernel_rfl) _ _ _ _ _ _ h1
  obtain⟨x2,v2,e2,w2⟩:=reads_pts _ _ _ _ _ _ h2
  refine⟨⟨x0,x1,x2⟩,v2,?_,w0,w1,w2⟩
  simp at e0 e1 e2
  subst e0 e1 e2
  rfl
theorem reads_sts:Reads Try.prog 90 (Ty.sl Ty.st):=reads_sl reads_st (by kernel_rfl) (by kernel_rfl) (by decide)
end Go.Proofs.Ytgbhpghgohggcaa
