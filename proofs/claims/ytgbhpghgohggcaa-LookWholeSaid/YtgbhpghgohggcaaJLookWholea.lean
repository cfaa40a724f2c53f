/- The parts that laws are proved of, joined: K26, Trod, Trod2, Trod3. No condition beside those that each theorem names. -/
import Derived.Deep.Slices
import Derived.OpenShut
import Derived.Below
import Derived.ChangeOld
import Derived.ProofKit
import Derived.SizedLaws
import Derived.Test.YtgbhpghgohggcaaJS3a
namespace Go.Proofs.Ytgbhpghgohggcaa
open Go.RowKit
set_option maxRecDepth 100000 in
set_option maxHeartbeats 4000000 in
theorem lookWhole_walk {n0:Int} {v:Value} {l:List St} (w:World) (_hn:I64 n0) (hv:Sl Ty.st w.cell? v l) (_hs:l.length*40≤140737488351232):
  Calls Try.prog 23 #[.int .i64 n0,v] w fun e w'=>e=.returned (.bool true)∧Grow w w':=by
 have HPL0:=η (fun(n:Nat) (hn:1≤n∧n≤3) (W:World) (hW:Grow w W)=>ref_play (l:=l) W hn (hv.mono hW.sub))
 obtain⟨a1,c1,rfl,-⟩:=hv
 by_cases hlo:n0<1
 ·clear HPL0
  go_enter Try.func23,Try.ntmps23
  go_wp2_with fail
  refine(alive11 _).mono ?_
  rintro e w1 ⟨rfl,hb1⟩
  go_wp2
  go_ret
  exact⟨rfl,hb1⟩
 by_cases hhi:3<n0
 ·clear HPL0
  go_enter Try.func23,Try.ntmps23
  go_wp2_with fail
  refine(alive11 _).mono ?_
  rintro e w1 ⟨rfl,hb1⟩
  go_wp2
  go_ret
  exact⟨rfl,hb1⟩
 obtain⟨n,rfl⟩:∃n:Nat,n0=(n:Int):=⟨n0.toNat,by omega⟩
 have hn:1≤n∧n≤3:=by omega
 obtain⟨G,hwi,-⟩:=WI.of_play hn (l.take 150)
 have hfw:=Few.play n (l.take 150) (Few.zero n)
 have hlp:=logP_play (l.take 150) (logP_new n)
 have HPL:=η (HPL0.o n hn)
 have hlg:(playA (newA n) (l.take 150)).head.log.length≤100000:=by have:=hfw.log;rw [List.length_take] at this;omega
 clear hfw HPL0
 have HLG:=η hlg
 have HLP:=η hlp
 have HWI:=η hwi
 clear hlg hlp hwi
 generalize playA (newA n) (l.take 150)=x at*
 have HL3:Hid (1≤x.houses.length∧x.houses.length≤3):=η (by rw [HWI.o.core.len];exact hn)
 clear hn
 go_enter Try.func23,Try.ntmps23
 go_wp2_with fail
 refine(alive11 _).mono ?_
 rintro e w1 ⟨rfl,hb1⟩
 have G1:=η hb1
 clear hb1
 go_wp2_with fail
 refine(HPL.o _ G1.o).mono ?_
 rintro e w2 ⟨v2,v3,rfl,hx2,hes,hb2⟩
 obtain⟨al,cl,ao,co,ah,ch,an,cn,rfl⟩:=hx2.wd_form
 have HX2:=η hx2
 have HB2:=η (G1.o.trans hb2)
 clear hx2 hes hb2 HPL
 go_upto_region 6 with fail
 obtain⟨w3,hw3⟩:∃y:World,y=w2.alloc (.cells #[.slice al x.head.log.length cl,.int .i64 x.head.boot,.int .i64 x.head.next,.slice ao x.head.opn.length co,.slice ah x.houses.length ch,.slice an x.net.length cn] 93):=⟨_,rfl⟩
 obtain⟨B5,hB5⟩:∃y,y=w2.heap.size:=⟨_,rfl⟩
 have G23:Hid (Grow w2 w3):=η (by rw [hw3];exact(Grow.refl _).alloc _)
 have R5:Hid (w3.heap[B5]? =some (.cells #[.slice al x.head.log.length cl,.int .i64 x.head.boot,.int .i64 x.head.next,.slice ao x.head.opn.length co,.slice ah x.houses.length ch,.slice an x.net.length cn] 93 (0,0))):=η (by rw [hw3,hB5];exact row_new _ _)
 rw [←hw3,←hB5]
 clear hw3 hB5
 have HX:=η (HX2.o.mono G23.o.sub)
 have G3:=η (HB2.o.trans G23.o)
 obtain⟨c0,c1',c2,c3,c4,c5⟩:=cells6 R5.o
 have z5:B5<w3.heap.size:=(γ R5.o)
 go_wp2_with fail
 refine(look_whole w3 HX.o HL3.o.2 HLG.o (HWI.o.logLen HLP.o) HWI.o.decKeys).mono ?_
 rintro e w4 ⟨b,rfl,hbb,hb4⟩
 obtain rfl:b=true:=hbb.2 HWI.o.wholeP
 have G4:=η hb4
 clear hbb hb4 c0 c1' c2 c3 c4 c5 z5
 obtain⟨c0,c1',c2,c3,c4,c5⟩:=cells6 (row_grow R5.o G4.o)
 have z5:B5<w4.heap.size:=(Array.getElem?_eq_some_iff.1 (row_grow R5.o G4.o)).1
 go_wp2_with fail
 refine(look_open w4 (HX.o.mono G4.o.sub) HWI.o HLG.o HLP.o).mono ?_
 rintro e w5 ⟨v5,rfl,ho5,hb5⟩
 obtain⟨a5,p5,rfl⟩:=ho5.form
 have G5:=η (G4.o.trans hb5)
 clear ho5 hb5 c0 c1' c2 c3 c4 c5 z5
 by_cases hop:opensE x=[]
 ·have HEV:=η (HWI.o.evenE hop)
  rw [hop]
  simp only [List.length_nil]
  clear hop
  obtain⟨c0,c1',c2,c3,c4,c5⟩:=cells6 (row_grow R5.o G5.o)
  have z5:B5<w5.heap.size:=(Array.getElem?_eq_some_iff.1 (row_grow R5.o G5.o)).1
  go_wp2_with fail
  refine(look_even w5 (HX.o.mono G5.o.sub) HL3.o HLG.o (HWI.o.logLen HLP.o) HWI.o.decWrong).mono ?_
  rintro e w6 ⟨rfl,hb6⟩
  rw [HEV.o]
  go_wp2
  go_ret
  exact⟨rfl,G3.o.trans (G5.o.trans hb6)⟩
 ·have hpos:(0:Int)<((opensE x).length:Int):=by
   have:(opensE x).length≠0:=fun e=>hop (List.eq_nil_of_length_eq_zero e)
   omega
  clear hop
  generalize (opensE x).length=k at*
  go_wp2
  go_ret
  exact⟨rfl,G3.o.trans G5.o⟩
end Go.Proofs.Ytgbhpghgohggcaa
namespace Go.Proofs.Ytgbhpghgohggcaa
open Go.RowKit Go.ChangeShapes Go.WideShapes Go.ChangeAt
def Reads {α:Type} (P:Program) (t:TypeId) (T:Ty α):Prop:=∀(H:Type) (enc:TypeId×Value→H) (W:World) (fuel:Nat) (cs:List Value) (x:DataW H×List MemPlace),
 DataW.trod enc P W 0 (fun _=>true) true fuel t cs=some x→∃y,T.R W.cell? cs y
theorem reads_int {P:Program} {t:TypeId} (ht:P.underlying t=some (.int .i64)):Reads P t Ty.int:=by
 intro H enc W fuel cs x h
 obtain⟨n,rfl,_,hw⟩:=DataW.trod_int ht h
 exact⟨n,rfl,hw⟩
theorem reads_sl {α:Type} {P:Program} {t e:TypeId} {T:Ty α} (hR:Reads P e T) (ht:P.underlying t=some (.slice e)) (hc:P.cellsOf e=T.size) (h0:0<T.size):Reads P t T.sl:=by
 intro H enc W fuel cs x h
 rcases Deep.open_slice ht h with⟨rfl,_⟩|⟨a,len,cap,m,n,D,Pl,rfl,_,hl,hm,hmm,hxe,hx⟩
 ·exact⟨[],_,rfl,none,0,rfl,Nat.le_refl _,Nat.zero_le _,fun _=>rfl,fun i x e=>by simp at e⟩
 ·simp only [if_true] at hmm
  subst m
  have h2:∀i,i<len→∃(p:List Value×α),T.R W.cell? p.1 p.2∧W.cells? 0 (a.add (i*T.size)) T.size=some p.1:=by
   intro i hi
   obtain⟨cs',h1,h2⟩:=hx i (by omega)
   obtain⟨y,hy⟩:=hR H enc W n cs' _ h2
   rw [hc] at h1
   exact⟨(cs',y),hy,h1⟩
  have h3:∃l:List α,l.length=len∧∀i y,l[i]? =some y→∃cs',T.R W.cell? cs' y∧W.cells? 0 (a.add (i*T.size)) T.size=some cs':=by
   clear hx hl h hxe
   induction len with
   |zero=>exact⟨[],rfl,by simp⟩
   |succ len ih=>
    obtain⟨l,hl,hi⟩:=ih (by intro i hi;exact h2 i (by omega))
    obtain⟨⟨cs',y⟩,hy,h1⟩:=h2 len (by omega)
    refine⟨l++ [y],by simp [hl],fun i z hz=>?_⟩
    rcases Nat.lt_or_ge i l.length with hlt|hge
    ·rw [List.getElem?_append_left hlt] at hz;exact hi i z hz
    ·have hb:=(List.getElem?_eq_some_iff.1 hz).1
     simp at hb
     obtain rfl:i=len:=by omega
     rw [List.getElem?_append_right hge,hl] at hz
     simp at hz
     subst hz
     exact⟨cs',hy,h1⟩
  obtain⟨l,hlen,hl2⟩:=h3
  refine⟨l,_,rfl,some a,cap,by rw [hlen],by omega,hm,by simp,fun i y hy=>?_⟩
  obtain⟨cs',hR',hcs⟩:=hl2 i y hy
  obtain⟨_,hlen',hat⟩:=World.cells?_some hcs
  have hpos:0<l.length:=by have:=(List.getElem?_eq_some_iff.1 hy).1;omega
  obtain⟨cs0,_,hcs0⟩:=hl2 0 l[0] (List.getElem?_eq_getElem hpos)
  obtain⟨_,hlen0,hat0⟩:=World.cells?_some hcs0
  have hfirst:=hat0 0 h0
  rw [List.getElem?_eq_getElem (by omega)] at hfirst
  have hsp:=World.cell?_spot hfirst
  obtain⟨b,o,s⟩:=a
  have hs:s=none:=by simpa [Addr.add] using hsp
  subst hs
  refine⟨b,o,cs',rfl,hR',fun j u hu=>?_⟩
  have hj:j<T.size:=by rw [←hlen'];exact(List.getElem?_eq_some_iff.1 hu).1
  have:=hat j hj
  rw [Addr.add_lit,Addr.add_lit,hu] at this
  exact this
def structOf (P:Program) (t:TypeId):Option (List (TypeId×Nat×Nat)):=
 match P.underlying t with
 |some (.struct fs)=>some (fs.toList.map fun f=>(f.type,f.offset,P.cellsOf f.type))
 |_=>none
theorem struct_fields {P:Program} {t:TypeId} {fs':List (TypeId×Nat×Nat)} (hs:structOf P t=some fs') {H:Type} {enc:TypeId×Value→H} {W:World} {fuel:Nat} {cs:List Value} {x:DataW H×List MemPlace}
  (h:DataW.trod enc P W 0 (fun _=>true) true fuel t cs=some x):cs.length=P.cellsOf t∧∀(i:Nat) (f:TypeId×Nat×Nat),fs'[i]? =some f→∃n y,DataW.trod enc P W 0 (fun _=>true) true n f.1 ((cs.drop f.2.1).take f.2.2)=some y:=by
 unfold structOf at hs
 split at hs
 ·rename_i fs hu
  obtain rfl:=Option.some.inj hs
  obtain⟨xs,n,_,_,hl,hlen,hf⟩:=DataW.trod_struct hu h
  refine⟨hl,fun i f hi=>?_⟩
  rw [List.getElem?_map] at hi
  cases hfi:fs.toList[i]? with
  |none=>rw [hfi] at hi;cases hi
  |some fd=>
   rw [hfi] at hi
   obtain rfl:=Option.some.inj hi
   have hfi':fs[i]? =some fd:=by simpa using hfi
   have hlt:i<xs.length:=by rw [hlen];exact(Array.getElem?_eq_some_iff.1 hfi').1
   have:=hf i fd hfi'
   rw [List.getElem?_eq_getElem hlt] at this
   exact⟨n,_,this⟩
 ·cases hs
theorem reads_pt:Reads Try.prog 32 Ty.pt:=by
 intro H enc W fuel cs x h
 obtain⟨hl,hf⟩:=struct_fields (fs':=[(3,0,1),(3,1,1),(3,2,1)]) (by kernel_rfl) h
 rw [show(Try.prog).cellsOf 32=3 by kernel_rfl] at hl
 match cs,hl with
 | [a,b,c],_=>
  obtain⟨_,_,h0⟩:=hf 0 _ rfl
  obtain⟨_,_,h1⟩:=hf 1 _ rfl
  obtain⟨_,_,h2⟩:=hf 2 _ rfl
  obtain⟨x0,e0,w0⟩:=reads_int (by kernel_rfl) _ _ _ _ _ _ h0
  obtain⟨x1,e1,w1⟩:=reads_int (by kernel_rfl) _ _ _ _ _ _ h1
  obtain⟨x2,e2,w2⟩:=reads_int (by kernel_rfl) _ _ _ _ _ _ h2
  refine⟨⟨x0,x1,x2⟩,?_,w0,w1,w2⟩
  simp at e0 e1 e2
  subst e0 e1 e2
  rfl
theorem reads_pts:Reads Try.prog 23 Ty.pts:=reads_sl reads_pt (by kernel_rfl) (by kernel_rfl) (by decide)
theorem arg_sl {α:Type} {P:Program} {t e:TypeId} {T:Ty α} (hR:Reads P t T.sl) (ht:P.underlying t=some (.slice e)) {H:Type} {enc:TypeId×Value→H} {W:World} {r:Reach} {b:Nat} {v:Value} {d:DataW H} {p:List MemPlace}
  (hval:Value.okWide P W r b t v) (h:DataW.Trod enc P W 0 (fun _=>true) true t v d p):∃l,Sl T W.cell? v l:=by
 obtain⟨a,len,cap,rfl⟩:=okWide_slice ht hval
 obtain⟨fuel,hf⟩:=h
 obtain⟨l,v,e,hv⟩:=hR _ _ _ _ _ _ hf
 simp [Value.cells] at e
 subst e
 exact⟨l,hv⟩
theorem own:ownKnob (Try.prog).godebug=none:=by kernel_rfl
theorem laidOut:laidOutB Try.prog=true:=by kernel_rfl
end Go.Proofs.Ytgbhpghgohggcaa
namespace Go.Proofs.Ytgbhpghgohggcaa
open Go.RowKit Go.ChangeShapes Go.WideShapes Go.ChangeAt
theorem sl_len {α:Type} {T:Ty α} {c:CM} {a:Option Addr} {n cap:Nat} {l:List α} (h:Sl T c (.slice a n cap) l):l.length=n:=by
 obtain⟨a',cap',he,_⟩:=h
 simp only [Value.slice.injEq] at he
 exact he.2.1.symm
theorem arg_size {α:Type} {P:Program} {t e:TypeId} {T:Ty α} {k:Nat} (ht:P.underlying t=some (.slice e)) (hb:P.bytesOf e=k) {H:Type} {enc:TypeId×Value→H} {W:World} {r:Reach} {b:Nat} {v:Value} {d:DataW H} {p:List MemPlace} {ts:List TypeId} {ds:List (DataW H)} {j:Nat}
  (hsz:(DataW.weightsEach P ts ds).all (· ≤reachBytes)=true) (hj:ts[j]? =some t) (hd:ds[j]? =some d)
  (hval:Value.okWide P W r b t v) (h:DataW.Trod enc P W 0 (fun _=>true) true t v d p) {l:List α} (hl:Sl T W.cell? v l):l.length*k≤140737488351232:=by
 obtain⟨a,len,cap,rfl⟩:=okWide_slice ht hval
 obtain⟨fuel,hf⟩:=h
 have hll:=sl_len hl
 rcases Deep.open_slice ht hf with⟨he,_⟩|⟨a',len',cap',m,n,D,Pl,he,_,hlc,_,hmm,hxe,_⟩
 ·simp [Value.cells] at he
  rw [hll,he.2.1];simp
 ·simp [Value.cells] at he
  obtain⟨_,rfl,rfl⟩:=he
  obtain rfl:d=.slice ((List.range len).map D) ((List.range (m - len)).map fun j=>D (len+j)):=by simpa using congrArg Prod.fst hxe
  have:=sized_slice hsz hj hd ht
  rw [hb,List.length_map,List.length_range] at this
  rw [hll]
  have h2:len*k≤(len+((List.range (m - len)).map fun j=>D (len+j)).length)*k:=Nat.mul_le_mul_right _ (Nat.le_add_right _ _)
  have h3:reachBytes=140737488351232:=rfl
  omega
theorem reads_st:Reads Try.prog 164 Ty.st:=by
 intro H enc W fuel cs x h
 obtain⟨hl,hf⟩:=struct_fields (fs':=[(3,0,1),(3,1,1),(23,2,1)]) (by kernel_rfl) h
 rw [show(Try.prog).cellsOf 164=3 by kernel_rfl] at hl
 match cs,hl with
 | [a,b,c],_=>
  obtain⟨_,_,h0⟩:=hf 0 _ rfl
  obtain⟨_,_,h1⟩:=hf 1 _ rfl
  obtain⟨_,_,h2⟩:=hf 2 _ rfl
  obtain⟨x0,e0,w0⟩:=reads_int (by kernel_rfl) _ _ _ _ _ _ h0
  obtain⟨x1,e1,w1⟩:=reads_int (by kernel_rfl) _ _ _ _ _ _ h1
  obtain⟨x2,v2,e2,w2⟩:=reads_pts _ _ _ _ _ _ h2
  refine⟨⟨x0,x1,x2⟩,v2,?_,w0,w1,w2⟩
  simp at e0 e1 e2
  subst e0 e1 e2
  rfl
theorem reads_sts:Reads Try.prog 90 (Ty.sl Ty.st):=reads_sl reads_st (by kernel_rfl) (by kernel_rfl) (by decide)
end Go.Proofs.Ytgbhpghgohggcaa
