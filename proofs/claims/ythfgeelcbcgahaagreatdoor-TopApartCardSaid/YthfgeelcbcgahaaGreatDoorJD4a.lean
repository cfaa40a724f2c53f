/- The parts that laws are proved of, joined: Z5, Z6, E4, U0, U1, U2, U3, U4, U5, U6, M9, U7, U8, G1, G2, U9, U21, G3, G4, U10, U11, U11n, G5, G6, G7, G8, G9, G10, G11, C4, U20, U28, U29, G12p. No condition beside those that each theorem names. -/
import Derived.Deep.Cut
import Derived.IntWalk
import Derived.Deep.DeepCutAuto
import Derived.Lib.SlicesCompact
import Derived.Shelf.Slices.In.SortNone
import Derived.Test.YthfgeelcbcgahaaGreatDoorJD1b
import Derived.Test.YthfgeelcbcgahaaGreatDoorJD2a
import Derived.Test.YthfgeelcbcgahaaGreatDoorJD3a
namespace Go.Proofs.YthfgeelcbcgahaaGreatDoor
open Go.RowKit
theorem Of.hd_form {c:CM} {v:Value} {h:Hd} (hv:Of Ty.hd c v h):∃al cl ar cr,v=.agg #[.slice al h.log.length cl,.int .i64 h.boot,.int .i64 h.next,.slice ar h.opn.length cr]:=by
 obtain⟨cs,rfl,vl,vo,rfl,hl,-,-,ho⟩:=hv
 obtain⟨al,cl,rfl,-⟩:=id hl
 obtain⟨ao,co,rfl,-⟩:=id ho
 exact⟨_,_,_,_,rfl⟩
theorem Of.hd_log {c:CM} {al ar:Option Addr} {nl cl nr cr:Nat} {b n:Value} {h:Hd} (hv:Of Ty.hd c (.agg #[.slice al nl cl,b,n,.slice ar nr cr]) h):Sl Ty.rc c (.slice al nl cl) h.log∧Sl Ty.opn c (.slice ar nr cr) h.opn:=by
 obtain⟨cs,he,vl,vo,rfl,hl,-,-,ho⟩:=hv
 simp at he
 obtain⟨rfl,-,-,rfl⟩:=he
 exact⟨hl,ho⟩
def Ty.wd:Ty AW where
 size:=6
 R:=fun c cs x=>∃vlog vopn vhs vnet:Value,cs=[vlog,.int .i64 x.head.boot,.int .i64 x.head.next,vopn,vhs,vnet]∧Sl Ty.rc c vlog x.head.log∧I64 x.head.boot∧I64 x.head.next∧Sl Ty.opn c vopn x.head.opn∧Sl Ty.hs c vhs x.houses∧Nts c vnet (x.net.map bytesM)
 len:=by rintro c cs x ⟨_,_,_,_,rfl,_⟩;rfl
 mono:=by rintro c c' cs x h ⟨a,b,d,e,rfl,h1,h2,h3,h4,h5,h6⟩;exact⟨a,b,d,e,rfl,h1.mono h,h2,h3,h4.mono h,h5.mono h,h6.mono h⟩
theorem Of.wd_form {c:CM} {v:Value} {x:AW} (hv:Of Ty.wd c v x):∃al cl ao co ah ch an cn,v=.agg #[.slice al x.head.log.length cl,.int .i64 x.head.boot,.int .i64 x.head.next,.slice ao x.head.opn.length co,.slice ah x.houses.length ch,.slice an x.net.length cn]:=by
 obtain⟨cs,rfl,vl,vo,vh,vn,rfl,hl,-,-,ho,hh,hn⟩:=hv
 obtain⟨al,cl,rfl,-⟩:=id hl
 obtain⟨ao,co,rfl,-⟩:=id ho
 obtain⟨ah,ch,rfl,-⟩:=id hh
 obtain⟨an,cn,rfl,-⟩:=id hn
 exact⟨al,cl,ao,co,ah,ch,an,cn,by simp⟩
theorem Of.wd_parts {c:CM} {vl vo vh vn b n:Value} {x:AW} (hv:Of Ty.wd c (.agg #[vl,b,n,vo,vh,vn]) x):Of Ty.hd c (.agg #[vl,b,n,vo]) x.head∧Sl Ty.hs c vh x.houses∧Nts c vn (x.net.map bytesM):=by
 obtain⟨cs,he,vl',vo',vh',vn',rfl,hl,hb,hn,ho,hh,hnn⟩:=hv
 simp at he
 obtain⟨rfl,rfl,rfl,rfl,rfl,rfl⟩:=he
 exact⟨⟨_,rfl,_,_,rfl,hl,hb,hn,ho⟩,hh,hnn⟩
theorem Of.wd_mk {c:CM} {vl vo vh vn b n:Value} {hd:Hd} {hs:List Hs} {net:List Ms} (h1:Of Ty.hd c (.agg #[vl,b,n,vo]) hd) (h2:Sl Ty.hs c vh hs) (h3:Nts c vn (net.map bytesM)):Of Ty.wd c (.agg #[vl,b,n,vo,vh,vn]) ⟨hd,hs,net⟩:=by
 obtain⟨cs,he,vl',vo',rfl,hl,hb,hn,ho⟩:=h1
 simp at he
 obtain⟨rfl,rfl,rfl,rfl⟩:=he
 exact⟨_,rfl,_,_,_,_,rfl,hl,hb,hn,ho,h2,h3⟩
theorem ov_none_sub (w w':World):Sub (ov (fun _=>none) w w') w'.cell?:=fun a v e=>by
 unfold ov at e
 split at e
 ·cases e
 ·exact e
theorem OwnC.ovn {α:Type} {T:Ty α} (h0:0<T.size) {w w':World} {e:Nat} {v:Value} {l:List α} (h:OwnC T (fr w w' [v.ownBlock]) w' w.heap.size e v l):Sl T (ov (fun _=>none) w w') v l:=
 h.slc h0 (fr_ov _ _ _ _) fun _ ha=>ov_new ha
structure Few (k:Nat) (w:AW):Prop where
 log:w.head.log.length≤k+1
 logs:∀h∈w.houses,h.log.length≤k
theorem headFold_log:∀(l:List Rc) (h:Hd),(l.foldl headStep h).log=h.log
 | [],_=>rfl
 |r::l,h=>by
  rw [List.foldl_cons,headFold_log l]
  unfold headStep
  split
  ·rfl
  ·split
   ·rfl
   ·split<;>rfl
theorem headR_log (l:List Rc):(headR l).log=l:=headFold_log l _
theorem hearH_len {h:Hs} (m:Ms) {k:Nat} (hk:h.log.length≤k):(hearH h m).log.length≤k+1:=by
 have hn:∀r:Rc,(noteE h r).log.length≤k+1:=fun r=>by
  rw [show(noteE h r).log=h.log++ [r] from log_house _];simpa using hk
 unfold hearH
 split
 ·split
  ·exact hn _
  ·omega
 ·split
  ·split
   ·exact hn _
   ·omega
  ·split
   ·split
    ·exact hn _
    ·omega
   ·omega
theorem hearO_log (o:Opn) (m:Ms):(hearO o m).2.1.length≤1:=by
 unfold hearO
 split
 ·split<;>simp
 ·split
  ·simp
  ·split
   ·split<;>simp
   ·split<;>simp
theorem hearL_log {m:Ms}:∀{l:List Opn} {x:List Opn×List Rc×List Ms},hearL m l=some x→x.2.1.length≤1
 | [],x,h=>by simp [hearL] at h
 |o::l,x,h=>by
  rw [hearL] at h
  split at h
  ·rw [←Option.some.inj h];exact hearO_log o m
  ·cases e:hearL m l with
   |none=>rw [e] at h;cases h
   |some y=>
    rw [e] at h
    rw [←Option.some.inj h]
    have h9:=hearL_log e
    exact h9
theorem hHear_log {h:Hd} (m:Ms) {k:Nat} (hk:h.log.length≤k):(hHearH h m).log.length≤k+1:=by
 unfold hHearH
 split
 ·omega
 ·rename_i x e
  have:=hearL_log e
  show(h.log++x.2.1).length≤_
  rw [List.length_append];omega
theorem begin_log (h:Hd) (P:List Pt):(beginH h P).log=h.log:=by
 unfold beginH
 split<;>rfl
theorem fall_log {h:Hd} {k:Nat} (hk:h.log.length≤k):(fallH h).log.length≤k+1:=by
 unfold fallH
 split
 ·omega
 ·rw [headR_log];simpa using hk
theorem Few.more {k:Nat} {w:AW} (f:Few k w):Few (k+1) w:=⟨by have:=f.log;omega,fun h hh=>by have:=f.logs h hh;omega⟩
theorem Few.come {k:Nat} {w:AW} (f:Few k w) (m:Ms):Few (k+1) (comeA w m):=by
 unfold comeA
 split
 ·exact f.more
 ·rename_i h e
  split
  ·refine⟨by have:=f.log;show w.head.log.length≤_;omega,fun x hx=>?_⟩
   rcases List.mem_or_eq_of_mem_set hx with hx|rfl
   ·have:=f.logs x hx;omega
   ·exact hearH_len m (f.logs h (List.mem_of_getElem? e))
  ·exact⟨hHear_log m f.log,fun x hx=>by have:=f.logs x hx;omega⟩
theorem Few.step {k:Nat} {w:AW} (f:Few k w) (s:St):Few (k+1) (doA w s):=by
 have f1:=f.more
 have f2:∀net,Few k { w with net:=net }:=fun _=>⟨f.log,f.logs⟩
 unfold doA
 split
 ·split
  ·exact⟨by show(beginH w.head s.parts).log.length≤_;rw [begin_log];exact f1.log,f1.logs⟩
  ·exact f1
 ·split
  ·split
   ·exact(f2 _).come _
   ·exact f1
  ·split
   ·split
    ·exact(f2 _).more
    ·exact f1
   ·split
    ·split
     ·exact(f2 _).more
     ·exact f1
    ·split
     ·split
      ·exact⟨fall_log f.log,f1.logs⟩
      ·exact f1
     ·split
      ·split
       ·unfold tickA
        split
        ·exact(f2 _).more
        ·split
         ·exact f1
         ·exact(f2 _).more
       ·exact f1
      ·split
       ·exact⟨f1.log,f1.logs⟩
       ·exact f1
theorem Few.zero (n:Nat):Few 0 (newA n):=⟨by show(headR _).log.length≤_;rw [headR_log];simp,fun h hh=>by
 rw [List.eq_of_mem_replicate hh];show(houseR []).log.length≤_;rw [log_house];simp⟩
theorem Few.play (n:Nat):∀(l:List St) {k:Nat} {w:AW},Few k w→Few (k+l.length) (playA w l)
 | [],k,w,f=>f
 |s::l,k,w,f=>by
  show Few _ (playA (doA w s) l)
  have:=Few.play n l (f.step s)
  rw [List.length_cons,show k+(l.length+1)=k+1+l.length by omega]
  exact this
structure Small (w:AW):Prop where
 few:∃k,k≤1000∧Few k w
 wi:∃n G,WI n G w
theorem fmap_next {α β:Type} (q:α→Bool) (f:α→β) {l:List α} {j:Nat} (h:j<l.length):((l.take (j+1)).filter q).map f=if q l[j]=true then((l.take j).filter q).map f++ [f l[j]] else((l.take j).filter q).map f:=by
 rw [List.take_succ_eq_append_getElem h,List.filter_append,List.map_append]
 by_cases hq:q l[j]=true<;>simp [hq]
theorem map_next {α β:Type} (f:α→β) {l:List α} {j:Nat} (h:j<l.length):(l.take (j+1)).map f=(l.take j).map f++ [f l[j]]:=by
 rw [List.take_succ_eq_append_getElem h,List.map_append];rfl
theorem flat_next {α β:Type} (f:α→List β) {l:List α} {j:Nat} (h:j<l.length):(l.take (j+1)).flatMap f=(l.take j).flatMap f++f l[j]:=by
 rw [List.take_succ_eq_append_getElem h,List.flatMap_append];simp
theorem fflat_next {α β:Type} (q:α→Bool) (f:α→List β) {l:List α} {j:Nat} (h:j<l.length):((l.take (j+1)).filter q).flatMap f=if q l[j]=true then((l.take j).filter q).flatMap f++f l[j] else((l.take j).filter q).flatMap f:=by
 rw [List.take_succ_eq_append_getElem h,List.filter_append,List.flatMap_append]
 by_cases hq:q l[j]=true<;>simp [hq]
theorem houses_short (l:List Pt):(housesE l).length≤3:=Nat.le_trans (List.length_filter_le _ _) (by simp)
theorem asks_short (o:Opn):(asksE o).length≤3:=by
 unfold asksE
 rw [List.length_map]
 exact Nat.le_trans (List.length_filter_le _ _) (houses_short _)
theorem aborts_short (d:Int) (l:List Pt):(abortsE d l).length≤3:=by
 unfold abortsE
 rw [List.length_map]
 exact houses_short _
theorem flat_short {α β:Type} {f:α→List β} {b:Nat} (hf:∀x,(f x).length≤b):∀(l:List α),(l.flatMap f).length≤l.length*b
 | []=>by simp
 |x::l=>by
  rw [List.flatMap_cons,List.length_append,List.length_cons,Nat.add_mul,Nat.one_mul]
  have:=hf x
  have:=flat_short hf l
  omega
structure HGo where
 opn:List Opn
 recs:List Rc
 says:List Ms
 known:Bool
theorem wp_store_part {P:Program} {ty:TypeId} {w:World} {o:Oper} {a:Act} {K:Act→World→Prop} {Q:Exit→Act→World→Prop} (d s:Operand) (ho:o.op=.store ty d s)
  {g p:Nat} {t:TypeId} {old cells new:Array Value} (hd:a.eval d=.pointer (some ⟨g,p,none⟩)) (hs:a.eval s=.agg cells) (hrow:w.heap[g]? =some (.cells old t (0,0)))
  (hi:(P.info? ty).map (·.size)=some cells.size) (hos:p+cells.size≤old.size) (h1:cells.toList.all (·.oneCell')=true) (hnew:(old.toList.take p++cells.toList++old.toList.drop (p+cells.size)).toArray=new)
  (h:∀w',w'.heap[g]? =some (.cells new t (0,0))→w.grownBy w' (some g)→K (a.put o.dst undef) w'):o.wp P a w K Q:=by
 have hr:=run_storeCells_at (P:=P) g p t cells.toList 0 old w hrow (by simpa using hos) (fun v hv=>by simpa using List.all_eq_true.1 h1 v hv)
 simp only [Nat.add_zero,Array.length_toList] at hr
 rw [hnew] at hr
 have hr2:(storeVar ty ⟨g,p,none⟩ (.agg cells)).run P w=.ok () (w.setRow g new):=by
  cases hq:P.info? ty with
  |none=>simp [hq] at hi
  |some q=>
   have hs:cells.size=q.size:=by simp [hq] at hi;omega
   simp [storeVar,sizeOf,typeInfo,hq,Value.cells,hs] at hr ⊢
   exact hr
 unfold Oper.wp execOp
 simp only [ho,hd,hs,Instr.storeAt,Instr.sureAddr,Sem.run_bind,Sem.run_pure,Result.andThen_ok,hr2]
 exact h _ (setRow_heap w g old new t _ hrow) ⟨rfl,rfl,rfl,by simp [World.setRow],fun k hk hne=>by
  simp only [World.setRow]
  rw [Array.getElem?_modify]
  rw [if_neg (fun e=>hne (by rw [e]))]⟩
theorem wpList_store_part {P:Program} {ty:TypeId} {ops:Array Oper} {rest:List Oper} {w:World} {o:Oper} {a:Act} {Q:Exit→Act→World→Prop} (hgd:o.guard=none) (d s:Operand) (ho:o.op=.store ty d s)
  {g p:Nat} {t:TypeId} {old cells new:Array Value} (hd:a.eval d=.pointer (some ⟨g,p,none⟩)) (hs:a.eval s=.agg cells) (hrow:w.heap[g]? =some (.cells old t (0,0)))
  (hi:(P.info? ty).map (·.size)=some cells.size) (hos:p+cells.size≤old.size) (h1:cells.toList.all (·.oneCell')=true) (hnew:(old.toList.take p++cells.toList++old.toList.drop (p+cells.size)).toArray=new)
  (h:∀w',w'.heap[g]? =some (.cells new t (0,0))→w.grownBy w' (some g)→wpList P ops Q rest (a.put o.dst undef) w'):wpList P ops Q (o::rest) a w:=
 wpList_plain hgd fun _ hK=>wp_store_part d s ho hd hs hrow hi hos h1 hnew fun w' a b=>hK _ _ (h w' a b)
theorem wp_store_cell {P:Program} {ty:TypeId} {w:World} {o:Oper} {a:Act} {K:Act→World→Prop} {Q:Exit→Act→World→Prop} (d s:Operand) (ho:o.op=.store ty d s)
  {g p:Nat} {t:TypeId} {old new:Array Value} {v:Value} (hd:a.eval d=.pointer (some ⟨g,p,none⟩)) (hs:a.eval s=v) (hv:v.cells=[v].toArray) (hrow:w.heap[g]? =some (.cells old t (0,0)))
  (hi:(P.info? ty).map (·.size)=some 1) (hos:p+1≤old.size) (h1:v.oneCell'=true) (hnew:(old.toList.take p++ [v]++old.toList.drop (p+1)).toArray=new)
  (h:∀w',w'.heap[g]? =some (.cells new t (0,0))→w.grownBy w' (some g)→K (a.put o.dst undef) w'):o.wp P a w K Q:=by
 have hr:=run_storeCells_at (P:=P) g p t [v] 0 old w hrow (by simpa using hos) (fun u hu=>by rw [List.mem_singleton.1 hu];exact h1)
 simp only [Nat.add_zero,List.length_singleton] at hr
 rw [hnew] at hr
 have hr2:(storeVar ty ⟨g,p,none⟩ v).run P w=.ok () (w.setRow g new):=by
  cases hq:P.info? ty with
  |none=>simp [hq] at hi
  |some q=>
   have hs:1=q.size:=by simp [hq] at hi;omega
   simp [storeVar,sizeOf,typeInfo,hq,hv,←hs] at hr ⊢
   exact hr
 unfold Oper.wp execOp
 simp only [ho,hd,hs,Instr.storeAt,Instr.sureAddr,Sem.run_bind,Sem.run_pure,Result.andThen_ok,hr2]
 exact h _ (setRow_heap w g old new t _ hrow) ⟨rfl,rfl,rfl,by simp [World.setRow],fun k hk hne=>by
  simp only [World.setRow]
  rw [Array.getElem?_modify]
  rw [if_neg (fun e=>hne (by rw [e]))]⟩
theorem cells6 {w:World} {B:Nat} {a b c d e f:Value} {t:TypeId} (h:w.heap[B]? =some (.cells #[a,b,c,d,e,f] t (0,0))):
  w.cell? ⟨B,0,none⟩=some a∧w.cell? ⟨B,1,none⟩=some b∧w.cell? ⟨B,2,none⟩=some c∧w.cell? ⟨B,3,none⟩=some d∧w.cell? ⟨B,4,none⟩=some e∧w.cell? ⟨B,5,none⟩=some f:=by
 simp [World.cell?,h]
theorem send_map (net ms:List Ms):sendB (net.map bytesM) ms=(sendA net ms).map bytesM:=by
 unfold sendB sendA
 rw [List.map_append,List.length_map]
theorem WI.right {n:Nat} {G:Reg} {x:AW} (i:WI n G x):∀m∈x.net,wrongM m=0:=fun m hm=>right_m.2 (i.net m hm).right
theorem WI.says {n:Nat} {G:Reg} {hd:Hd} {hs:List Hs} {ms:List Ms} (h:∀m∈ms,MOk n G hd hs m):∀m∈ms,wrongM m=0:=fun m hm=>right_m.2 (h m hm).right
theorem erase_map (net:List Ms) (k:Nat):(net.map bytesM).take k++(net.map bytesM).drop (k+1)=(net.eraseIdx k).map bytesM:=by
 rw [List.eraseIdx_eq_take_drop_succ,List.map_append,List.map_take,List.map_drop]
theorem HI.keys {G:Reg} {D:List Rd} {k:Int} {h:Hs} (i:HI G D k h):∀r∈h.log,KeysOk r.parts:=fun r hr=>by
 have h2:=of_decide_eq_true (i.log r hr)
 by_cases hp:r.parts=[]
 ·rw [hp];intro p hp;simp at hp
 ·exact wrong_keys (h2.2.1 hp)
theorem houses_ok (l:List Pt):∀x∈housesE l,I64 x:=fun x hx=>by
 have h:=(List.mem_filter.1 hx).1
 simp only [List.mem_cons,List.not_mem_nil,or_false] at h
 rcases h with rfl|rfl|rfl<;>(unfold I64;decide)
theorem ints_of {w:World} {base:Nat} {e:TypeId} {v:Value} {l:List Int} (h:w.ownsRow base e 1 v l.length (l.flatMap intCell)) (hok:∀x∈l,I64 x):Sl Ty.int w.cell? v l:=(OwnC.ints (c:=w.cell?) h hok).sl (by decide) (Sub.refl _)
theorem fr_low {w w1 W:World} {X:List (Option Nat)} (h:w.heap.size≤w1.heap.size):Sub (fr w1 W X) (fr w W X):=fun a v e=>by
 unfold fr at e
 split at e
 ·cases e
 ·rename_i hn
  rw [fr_new (by have h1:¬a.block<w1.heap.size:=fun hx=>hn (.inl hx);omega) (fun hx=>hn (.inr hx))]
  exact e
abbrev askQ (o:Opn) (n:Int):Bool:=!decide (n∈o.heard)
structure RBox (c:CM) (w wr:World) (vl vo:Value) (h:Hd):Prop where
 res:wr.heap[w.heap.size]? =some (.cells zhead 35 (0,0))
 row:wr.heap[w.heap.size+1]? =some (.cells #[vl,.int .i64 h.boot,.int .i64 h.next,vo] 35 (0,0))
 opn:OwnC Ty.opn c wr (w.heap.size+2) 147 vo h.opn
 grow:Grow w wr
 size:w.heap.size+2≤wr.heap.size
theorem RBox.later {c:CM} {w wr w':World} {vl vo:Value} {h:Hd} (b:RBox c w wr vl vo h) (hg:Grow wr w'):RBox c w w' vl vo h:=
 ⟨row_grow b.res hg,row_grow b.row hg,b.opn.grow hg,b.grow.trans hg,Nat.le_trans b.size hg.size⟩
theorem RBox.opns {c:CM} {w wr w':World} {vl vo vo':Value} {h:Hd} {os:List Opn} {row:Option Nat} (b:RBox c w wr vl vo h) (hg:wr.grownBy w' row) (hr:∀k,row=some k→w.heap.size+2≤k) (ho:OwnC Ty.opn c w' (w.heap.size+2) 147 vo' os):
  RBox c w (w'.setCell ⟨w.heap.size+1,3,none⟩ vo') vl vo' { h with opn:=os }:=by
 have hs:=b.size
 have hB:∀k,k≠w.heap.size+1→(w'.setCell ⟨w.heap.size+1,3,none⟩ vo').heap[k]? =w'.heap[k]?:=fun k hk=>Below.heap_setCell _ _ _ _ (fun e=>hk e)
 refine⟨?_,row_set4_3 (row_by b.row hg (fun e=>by have:=hr _ e.symm;omega)) _,ho.block fun k hk=>hB k (by have:=(ho.lt k hk).1;omega),(b.grow.grown hg (fun k hk=>by have:=hr k hk;omega)).setCell (by simp) _,?_⟩
 ·rw [hB _ (by omega)];exact row_by b.res hg (fun e=>by have:=hr _ e.symm;omega)
 ·have:=hg.size;simp;omega
theorem RBox.boot {c:CM} {w wr:World} {vl vo:Value} {h:Hd} (b:RBox c w wr vl vo h) (x:Int):RBox c w (wr.setCell ⟨w.heap.size+1,1,none⟩ (.int .i64 x)) vl vo { h with boot:=x }:=by
 have hs:=b.size
 have hB:∀k,k≠w.heap.size+1→(wr.setCell ⟨w.heap.size+1,1,none⟩ (.int .i64 x)).heap[k]? =wr.heap[k]?:=fun k hk=>Below.heap_setCell _ _ _ _ (fun e=>hk e)
 exact⟨by rw [hB _ (by omega)];exact b.res,row_set4_1 b.row _,b.opn.block fun k hk=>hB k (by have:=(b.opn.lt k hk).1;omega),b.grow.setCell (by simp) _,by simpa using b.size⟩
theorem src_new {α:Type} {T:Ty α} (h0:0<T.size) {w W w4:World} {e:Nat} {v:Value} {l:List α} {row:Option Nat} (hg:Grow w W) (hr:∀k,row=some k→k<W.heap.size) (h:OwnC T (fr W w4 [v.ownBlock]) w4 W.heap.size e v l):Src T (fr w w4 [row]) w4 v l:=by
 have hs:=hg.size
 have hk:∀k,W.heap.size≤k→some k∉ [row]:=fun k hk=>by
  simp only [List.mem_singleton]
  intro e
  have:=hr _ e.symm
  omega
 refine Src.of_sl_c h0 (fr_sub _ _ _) (h.slc h0 (fun a v e=>?_) fun a ha=>fr_new (by omega) (hk _ ha))
 unfold fr at e
 split at e
 ·cases e
 ·rename_i hn
  have h1:¬a.block<W.heap.size:=fun hx=>hn (.inl hx)
  rw [fr_new (by omega) (hk _ (by omega))]
  exact e
theorem cell_past {w w':World} {B:Nat} {a:Addr} {v:Value} (h:w.cell? a=some v) (hg:w.grownBy w' (some B)) (hne:a.block≠B):w'.cell? a=some v:=by
 rw [by_cell hg (World.block_lt_of_cell? w a h) hne];exact h
theorem Opns.agg {c:CM} {q:Opn} {vp vh:Value} (h1:I64 q.deed) (h2:Sl Ty.pt c vp q.parts) (h3:Sl Ty.int c vh q.heard):Of Ty.opn c (.agg #[.int .i64 q.deed,vp,.bool q.dec,vh]) q:=⟨_,rfl,_,_,rfl,h1,h2,h3⟩
structure HdOk (h:Hd):Prop where
 opn:h.opn.length≤12
 parts:∀o∈h.opn,o.parts.length≤4
 heard:∀o∈h.opn,o.heard.length≤3
 log:h.log.length≤100000
 boot:0≤h.boot∧h.boot≤20
 next:0≤h.next∧h.next≤64
theorem wpList_store_cell {P:Program} {ty:TypeId} {ops:Array Oper} {rest:List Oper} {w:World} {o:Oper} {a:Act} {Q:Exit→Act→World→Prop} (hgd:o.guard=none) (d s:Operand) (ho:o.op=.store ty d s)
  {g p:Nat} {t:TypeId} {old new:Array Value} {v:Value} (hd:a.eval d=.pointer (some ⟨g,p,none⟩)) (hs:a.eval s=v) (hv:v.cells=[v].toArray) (hrow:w.heap[g]? =some (.cells old t (0,0)))
  (hi:(P.info? ty).map (·.size)=some 1) (hos:p+1≤old.size) (h1:v.oneCell'=true) (hnew:(old.toList.take p++ [v]++old.toList.drop (p+1)).toArray=new)
  (h:∀w',w'.heap[g]? =some (.cells new t (0,0))→w.grownBy w' (some g)→wpList P ops Q rest (a.put o.dst undef) w'):wpList P ops Q (o::rest) a w:=
 wpList_plain hgd fun _ hK=>wp_store_cell d s ho hd hs hv hrow hi hos h1 hnew fun w' a b=>hK _ _ (h w' a b)
theorem info_opns:(Tryz.prog.info? 33).map (·.size)=some 1:=by kernel_rfl
theorem info_int1:(Tryz.prog.info? 3).map (·.size)=some 1:=by kernel_rfl
theorem OwnC.srcA {α:Type} {T:Ty α} {c:CM} {w:World} {base e:Nat} {v:Value} {l:List α} (h:OwnC T c w base e v l):Src T c w v l:=by
 obtain⟨css,h1,h2,h3⟩:=h
 obtain⟨a,cap,rfl⟩:=owns_form h1
 have h4:=own_src h1
 exact⟨a,cap,css,rfl,h4.1,by obtain⟨-,⟨-,hn⟩|⟨g,cap',cur,he,-,-,hnc,hcm,-⟩⟩:=h1<;>omega,h2,h3,h4.2⟩
def Apart (u v:Value):Prop:=∀q,u.ownBlock=some q→v.ownBlock≠some q
theorem Apart.symm {u v:Value} (h:Apart u v):Apart v u:=fun q e e2=>h q e2 e
theorem Apart.step {α:Type} {T:Ty α} {c:CM} {w:World} {base e:Nat} {u u' v:Value} {l:List α} (h:Apart u v) (hv:OwnC T c w base e v l) (hb:u'.ownBlock=u.ownBlock∨∃g,u'.ownBlock=some g∧w.heap.size≤g):Apart u' v:=fun q e e2=>by
 rcases hb with hb|⟨g,hb,hge⟩
 ·exact h q (hb.symm.trans e) e2
 ·rw [hb] at e
  obtain rfl:=Option.some.inj e
  have:=(hv.lt g e2).2
  omega
def Ty.oph:Ty (Opn×Value) where
 size:=4
 R:=fun c cs x=>∃vp:Value,cs=[.int .i64 x.1.deed,vp,.bool x.1.dec,x.2]∧I64 x.1.deed∧Sl Ty.pt c vp x.1.parts∧x.2.oneCell'=true
 len:=by rintro c cs x ⟨_,rfl,_⟩;rfl
 mono:=by rintro c c' cs x h ⟨a,rfl,h1,h2,h3⟩;exact⟨a,rfl,h1,h2.mono h,h3⟩
abbrev OpH:=Opn×Value
theorem one_Toph:TOne Ty.oph:=by
 rintro c cs x ⟨v,rfl,-,h,h'⟩ u hu
 simp only [List.mem_cons,List.not_mem_nil,or_false] at hu
 rcases hu with rfl|rfl|rfl|rfl
 ·rfl
 ·exact sl_oneCell h
 ·rfl
 ·exact h'
def ApO (a b:Option Nat):Prop:=a=none∨a≠b
theorem ApO.symm {a b:Option Nat} (h:ApO a b):ApO b a:=by
 rcases h with rfl|h
 ·cases b with
  |none=>exact .inl rfl
  |some q=>exact .inr (by simp)
 ·exact .inr fun e=>h e.symm
structure RowsOk (w W:World) (X:List (Option Nat)):Prop where
 pw:X.Pairwise ApO
 lt:∀q,some q∈X→w.heap.size≤q∧q<W.heap.size
theorem RowsOk.off {w W:World} {X:List (Option Nat)} (h:RowsOk w W X) {i j:Nat} {a b:Option Nat} (hi:X[i]? =some a) (hj:X[j]? =some b) (hne:i≠j):ApO a b:=by
 obtain⟨hi1,rfl⟩:=List.getElem?_eq_some_iff.1 hi
 obtain⟨hj1,rfl⟩:=List.getElem?_eq_some_iff.1 hj
 rcases Nat.lt_or_gt_of_ne hne with h1|h1
 ·exact List.pairwise_iff_getElem.1 h.pw i j hi1 hj1 h1
 ·exact(List.pairwise_iff_getElem.1 h.pw j i hj1 hi1 h1).symm
theorem RowsOk.later {w W W2:World} {X:List (Option Nat)} (h:RowsOk w W X) (hs:W.heap.size≤W2.heap.size):RowsOk w W2 X:=⟨h.pw,fun q hq=>by have:=h.lt q hq;omega⟩
theorem RowsOk.step {w W W2:World} {X:List (Option Nat)} {i:Nat} {r r':Option Nat} (h:RowsOk w W X) (hi:X[i]? =some r) (hg:W.grownBy W2 r) (hb:r'=r∨∃g,r'=some g∧W.heap.size≤g) (hl:∀q,r'=some q→w.heap.size≤q∧q<W2.heap.size):
  RowsOk w W2 (X.set i r')∧Sub (fr w W X) (fr w W2 (X.set i r')):=by
 have hs:=hg.size
 refine⟨⟨?_,fun q hq=>?_⟩,fr_step fun k hk h0 hx=>⟨hg.block k hk fun e=>hx (e▸List.mem_of_getElem? hi),fun hx'=>?_⟩⟩
 ·rw [List.pairwise_iff_getElem]
  intro a b ha hb' hab
  rw [List.length_set] at ha hb'
  have hv':∀j u,j≠i→X[j]? =some u→ApO r' u:=fun j u hj hu=>by
   rcases hb with rfl|⟨g,rfl,hge⟩
   ·exact h.off hi hu (Ne.symm hj)
   ·refine .inr fun e=>?_
    have:=(h.lt g (e▸List.mem_of_getElem? hu)).2
    omega
  rw [List.getElem_set,List.getElem_set]
  by_cases h1:i=a
  ·rw [if_pos h1,if_neg (by omega)]
   exact hv' b _ (by omega) (List.getElem?_eq_getElem hb')
  ·rw [if_neg h1]
   by_cases h2:i=b
   ·rw [if_pos h2]
    exact(hv' a _ (by omega) (List.getElem?_eq_getElem ha)).symm
   ·rw [if_neg h2]
    exact List.pairwise_iff_getElem.1 h.pw a b ha hb' hab
 ·rcases List.mem_or_eq_of_mem_set hq with hq|hq
  ·have:=h.lt q hq;omega
  ·exact hl q hq.symm
 ·rcases List.mem_or_eq_of_mem_set hx' with hu|e
  ·exact hx hu
  ·rcases hb with rfl|⟨g,rfl,hge⟩
   ·exact hx (e▸List.mem_of_getElem? hi)
   ·have:=Option.some.inj e
    omega
theorem RowsOk.less {w W:World} {X Y:List (Option Nat)} (h:RowsOk w W X) (hp:Y.Pairwise ApO) (hs:∀q,some q∈Y→some q∈X):RowsOk w W Y∧Sub (fr w W X) (fr w W Y):=
 ⟨⟨hp,fun q hq=>h.lt q (hs q hq)⟩,fr_step fun _ _ _ hx=>⟨rfl,fun hy=>hx (hs _ hy)⟩⟩
def hro (B:Nat) (vl vo:Value) (L:List OpH):List (Option Nat):=some B::vl.ownBlock::vo.ownBlock::L.map (·.2.ownBlock)
structure HR (w W:World) (B:Nat) (vl vo:Value) (lg:List Rc) (L:List OpH):Prop where
 log:OwnC Ty.rc (fr w W (hro B vl vo L)) W w.heap.size 81 vl lg
 opn:OwnC Ty.oph (fr w W (hro B vl vo L)) W w.heap.size 147 vo L
 heard:∀x∈L,OwnC Ty.int (fun _=>none) W w.heap.size 3 x.2 x.1.heard
 ok:RowsOk w W (hro B vl vo L)
 grow:Grow w W
theorem OwnC.of_oph {c d:CM} {w:World} {base e:Nat} {v:Value} {L:List OpH} (h:OwnC Ty.oph c w base e v L) (hs:Sub c d) (hh:∀x∈L,Sl Ty.int d x.2 x.1.heard):OwnC Ty.opn d w base e v (L.map (·.1)):=by
 obtain⟨css,h1,h2,h3⟩:=h
 refine⟨css,by rw [List.length_map];exact h1,by simp [h2],fun i cs x a b=>?_⟩
 rw [List.getElem?_map] at b
 cases hL:L[i]? with
 |none=>rw [hL] at b;cases b
 |some y=>
  rw [hL] at b
  obtain rfl:=Option.some.inj b
  obtain⟨vp,he,hi,hp,-⟩:=h3 i cs y a hL
  exact⟨vp,y.2,he,hi,hp.mono hs,hh y (List.mem_of_getElem? hL)⟩
section
variable {w W:World} {B:Nat} {vl vo:Value} {lg:List Rc} {L:List OpH}
theorem HR.heardSl (b:HR w W B vl vo lg L) (x:OpH) (hx:x∈L):Sl Ty.int (ov (fun _=>none) w W) x.2 x.1.heard:=
 (b.heard x hx).slc (by decide) (fun a v e=>by cases e) fun a ha=>ov_new ha
theorem HR.opns (b:HR w W B vl vo lg L):OwnC Ty.opn (ov (fun _=>none) w W) W w.heap.size 147 vo (L.map (·.1)):=b.opn.of_oph (fr_ov (fun _=>none) _ _ _) b.heardSl
theorem HR.of (b:HR w W B vl vo lg L) {boot next:Int} (h1:I64 boot) (h2:I64 next):Of Ty.hd (ov (fun _=>none) w W) (.agg #[vl,.int .i64 boot,.int .i64 next,vo]) ⟨lg,boot,next,L.map (·.1)⟩:=
 ⟨_,rfl,vl,vo,rfl,b.log.slc (by decide) (fr_ov _ _ _ _) fun a ha=>ov_new ha,h1,h2,b.opns.slc (by decide) (Sub.refl _) fun a ha=>ov_new ha⟩
theorem HR.later {W2:World} (b:HR w W B vl vo lg L) (hg:Grow W W2):HR w W2 B vl vo lg L where
 log:=(b.log.mono (fr_grow hg)).grow hg
 opn:=(b.opn.mono (fr_grow hg)).grow hg
 heard:=fun x hx=>(b.heard x hx).grow hg
 ok:=b.ok.later hg.size
 grow:=b.grow.trans hg
theorem HR.at_heard {k:Nat} {x:OpH} (hk:L[k]? =some x):(hro B vl vo L)[k+3]? =some x.2.ownBlock:=by
 simp [hro,List.getElem?_map,hk]
theorem apo_off {v:Value} {r:Option Nat} (h:ApO v.ownBlock r):v.ownBlock=none∨v.ownBlock≠r:=h
theorem HR.box {W2:World} (b:HR w W B vl vo lg L) (hg:W.grownBy W2 (some B)):HR w W2 B vl vo lg L:=by
 have h0:(hro B vl vo L)[0]? =some (some B):=rfl
 obtain⟨k1,k2⟩:=b.ok.step h0 hg (.inl rfl) (fun q hq=>by have:=b.ok.lt q (hq▸List.mem_of_getElem? h0);have:=hg.size;omega)
 have e:(hro B vl vo L).set 0 (some B)=hro B vl vo L:=rfl
 rw [e] at k1 k2
 refine⟨(b.log.mono k2).kept hg (apo_off (b.ok.off (i:=1) (j:=0) rfl h0 (by decide))),(b.opn.mono k2).kept hg (apo_off (b.ok.off (i:=2) (j:=0) rfl h0 (by decide))),fun x hx=>?_,k1,b.grow.grown hg (fun k hk=>(b.ok.lt k (hk▸List.mem_of_getElem? h0)).1)⟩
 obtain⟨i,hi,rfl⟩:=List.mem_iff_getElem.1 hx
 exact(b.heard _ hx).kept hg (apo_off (b.ok.off (HR.at_heard (List.getElem?_eq_getElem hi)) h0 (by omega)))
theorem HR.logs {W2:World} {vl':Value} {lg':List Rc} (b:HR w W B vl vo lg L) (hg:W.grownBy W2 vl.ownBlock) (hb:vl'.ownBlock=vl.ownBlock∨∃g,vl'.ownBlock=some g∧W.heap.size≤g)
  (ho:OwnC Ty.rc (fr w W (hro B vl vo L)) W2 w.heap.size 81 vl' lg'):HR w W2 B vl' vo lg' L:=by
 have h0:(hro B vl vo L)[1]? =some vl.ownBlock:=rfl
 obtain⟨k1,k2⟩:=b.ok.step h0 hg hb ho.lt
 have e:(hro B vl vo L).set 1 vl'.ownBlock=hro B vl' vo L:=rfl
 rw [e] at k1 k2
 refine⟨ho.mono k2,(b.opn.mono k2).kept hg (apo_off (b.ok.off (i:=2) (j:=1) rfl h0 (by decide))),fun x hx=>?_,k1,b.grow.grown hg (fun k hk=>(b.log.lt k hk).1)⟩
 obtain⟨i,hi,rfl⟩:=List.mem_iff_getElem.1 hx
 exact(b.heard _ hx).kept hg (apo_off (b.ok.off (HR.at_heard (List.getElem?_eq_getElem hi)) h0 (by omega)))
theorem HR.put {W2:World} {vo':Value} {L':List OpH} (b:HR w W B vl vo lg L) (hg:W.grownBy W2 vo.ownBlock) (hb:vo'.ownBlock=vo.ownBlock∨∃g,vo'.ownBlock=some g∧W.heap.size≤g)
  (ho:OwnC Ty.oph (fr w W (hro B vl vo L)) W2 w.heap.size 147 vo' L') (hh:∀x∈L',x∈L∨x.2=.slice none 0 0∧x.1.heard=[]) (hp:(L'.map (·.2.ownBlock)).Pairwise ApO):HR w W2 B vl vo' lg L':=by
 have h0:(hro B vl vo L)[2]? =some vo.ownBlock:=rfl
 obtain⟨k1,k2⟩:=b.ok.step h0 hg hb ho.lt
 have e:(hro B vl vo L).set 2 vo'.ownBlock=hro B vl vo' L:=rfl
 rw [e] at k1 k2
 have hin:∀q,some q∈L'.map (·.2.ownBlock)→some q∈L.map (·.2.ownBlock):=fun q hq=>by
  obtain⟨x,hx,e⟩:=List.mem_map.1 hq
  rcases hh x hx with h|⟨h,-⟩
  ·exact List.mem_map.2 ⟨x,h,e⟩
  ·rw [h] at e;cases e
 have hsub:∀q,some q∈hro B vl vo' L'→some q∈hro B vl vo' L:=fun q hq=>by
  unfold hro at hq ⊢
  rcases List.mem_cons.1 hq with h|hq
  ·exact List.mem_cons.2 (.inl h)
  rcases List.mem_cons.1 hq with h|hq
  ·exact List.mem_cons.2 (.inr (List.mem_cons.2 (.inl h)))
  rcases List.mem_cons.1 hq with h|hq
  ·exact List.mem_cons.2 (.inr (List.mem_cons.2 (.inr (List.mem_cons.2 (.inl h)))))
  ·exact List.mem_cons.2 (.inr (List.mem_cons.2 (.inr (List.mem_cons.2 (.inr (hin q hq))))))
 have hpw:(hro B vl vo' L').Pairwise ApO:=by
  have p:=k1.pw
  unfold hro at p ⊢
  simp only [List.pairwise_cons] at p ⊢
  have up:∀a:Option Nat,(∀c∈L.map (·.2.ownBlock),ApO a c)→∀c∈L'.map (·.2.ownBlock),ApO a c:=fun a ha c hc=>by
   cases c with
   |none=>exact ApO.symm (.inl rfl)
   |some q=>exact ha _ (hin q hc)
  refine⟨fun c hc=>?_,fun c hc=>?_,up _ p.2.2.1,hp⟩
  ·rcases List.mem_cons.1 hc with rfl|hc
   ·exact p.1 _ (by simp)
   ·rcases List.mem_cons.1 hc with rfl|hc
    ·exact p.1 _ (by simp)
    ·exact up _ (fun c hc=>p.1 c (by simp at hc ⊢;exact .inr (.inr hc))) c hc
  ·rcases List.mem_cons.1 hc with rfl|hc
   ·exact p.2.1 _ (by simp)
   ·exact up _ (fun c hc=>p.2.1 c (by simp at hc ⊢;exact .inr hc)) c hc
 obtain⟨k3,k4⟩:=k1.less hpw hsub
 have k5:=k2.trans k4
 refine⟨(b.log.mono k5).kept hg (apo_off (b.ok.off (i:=1) (j:=2) rfl h0 (by decide))),ho.mono k5,fun x hx=>?_,k3,b.grow.grown hg (fun k hk=>(b.opn.lt k hk).1)⟩
 rcases hh x hx with h|⟨h1,h2⟩
 ·obtain⟨i,hi,rfl⟩:=List.mem_iff_getElem.1 h
  exact(b.heard _ h).kept hg (apo_off (b.ok.off (HR.at_heard (List.getElem?_eq_getElem hi)) h0 (by omega)))
 ·rw [h1,h2];exact OwnC.nil _ _ _ _ _
end
theorem OwnC.cellSet {α:Type} {T:Ty α} {c:CM} {w:World} {base e g n cap:Nat} {l:List α} (h:OwnC T c w base e (.slice (some ⟨g,0,none⟩) n cap) l) (hn:n=l.length) {i j:Nat} {x x':α} (hi:l[i]? =some x) (hj:j<T.size) {u:Value}
  (hR:∀cs,T.R c cs x→T.R c (cs.set j u) x'):OwnC T c (w.setCell ⟨g,i*T.size+j,none⟩ u) base e (.slice (some ⟨g,0,none⟩) n cap) (l.set i x'):=by
 obtain⟨css,h1,h2,h3⟩:=h
 subst hn
 have hil:=(List.getElem?_eq_some_iff.1 hi).1
 have hcl:=css_len h2 h3
 have hcx:css[i]? =some css[i]:=List.getElem?_eq_getElem (by omega)
 have hci:=h3 i css[i] x hcx hi
 have k2:=(h1.stored (i*T.size+j) u).1
 have e1:(css.set i (css[i].set j u)).flatten=css.flatten.set (i*T.size+j) u:=by
  have h0:0<T.size:=by omega
  have hcl':∀cs∈css.set i (css[i].set j u),cs.length=T.size:=fun cs hcs=>by
   rcases List.mem_or_eq_of_mem_set hcs with h|rfl
   ·exact hcl cs h
   ·rw [List.length_set];exact T.len hci
  apply List.ext_getElem?
  intro q
  rw [flatten_at h0 _ hcl',List.getElem?_set,List.getElem?_set,flatten_at h0 css hcl]
  by_cases hq:i=q/T.size
  ·rw [if_pos hq]
   subst hq
   rw [if_pos (by omega),hcx]
   simp only [Option.bind_some,List.getElem?_set]
   have hdm:=Nat.div_add_mod q T.size
   rw [Nat.mul_comm] at hdm
   by_cases hj2:j=q % T.size
   ·rw [if_pos hj2,if_pos (by rw [T.len hci];exact hj),if_pos (by omega),if_pos (by
     rw [flatten_len css hcl,h2]
     have:(q/T.size+1)*T.size≤l.length*T.size:=Nat.mul_le_mul_right _ (by omega)
     rw [Nat.add_mul] at this;omega)]
   ·rw [if_neg hj2,if_neg (by omega)]
  ·rw [if_neg hq,if_neg (fun e=>hq (by
    rw [←e,Nat.mul_comm,Nat.mul_add_div h0,Nat.div_eq_of_lt hj,Nat.add_zero]))]
 refine⟨css.set i (css[i].set j u),by rw [e1];simpa using k2,by simp [h2],fun q cs y a b=>?_⟩
 rw [List.getElem?_set] at a b
 by_cases hq:i=q
 ·rw [if_pos hq,if_pos (by omega)] at a b
  obtain rfl:=Option.some.inj a
  obtain rfl:=Option.some.inj b
  exact hR _ hci
 ·rw [if_neg hq] at a b
  exact h3 q cs y a b
theorem HR.hear {w W W2:World} {B:Nat} {vl:Value} {lg:List Rc} {L:List OpH} {g n cap k:Nat} {x:OpH} {v':Value} {l':List Int} (b:HR w W B vl (.slice (some ⟨g,0,none⟩) n cap) lg L) (hn:n=L.length) (hk:L[k]? =some x)
  (hg:W.grownBy W2 x.2.ownBlock) (hb:v'.ownBlock=x.2.ownBlock∨∃q,v'.ownBlock=some q∧W.heap.size≤q) (ho:OwnC Ty.int (fun _=>none) W2 w.heap.size 3 v' l'):
  HR w (W2.setCell ⟨g,k*4+3,none⟩ v') B vl (.slice (some ⟨g,0,none⟩) n cap) lg (L.set k (⟨x.1.deed,x.1.parts,x.1.dec,l'⟩,v'))∧W.cell? ⟨g,k*4,none⟩=some (.int .i64 x.1.deed)∧∃vp,W.cell? ⟨g,k*4+1,none⟩=some vp:=by
 have hkl:=(List.getElem?_eq_some_iff.1 hk).1
 have h0:=HR.at_heard (B:=B) (vl:=vl) (vo:=.slice (some ⟨g,0,none⟩) n cap) hk
 obtain⟨k1,k2⟩:=b.ok.step h0 hg hb ho.lt
 have e:(hro B vl (.slice (some ⟨g,0,none⟩) n cap) L).set (k+3) v'.ownBlock=hro B vl (.slice (some ⟨g,0,none⟩) n cap) (L.set k (⟨x.1.deed,x.1.parts,x.1.dec,l'⟩,v')):=by
  unfold hro
  simp [List.map_set]
 rw [e] at k1 k2
 have h2:∀M:List OpH,(hro B vl (.slice (some ⟨g,0,none⟩) n cap) M)[2]? =some (some g):=fun _=>rfl
 have gs:W2.grownBy (W2.setCell ⟨g,k*4+3,none⟩ v') (some g):=grownBy_setCell W2 ⟨g,k*4+3,none⟩ v'
 obtain⟨k3,k4⟩:=k1.step (h2 _) gs (.inl rfl) (fun q hq=>by
  have:=k1.lt q (by rw [←hq];exact List.mem_of_getElem? (h2 _))
  have:=gs.size;omega)
 have e2:(hro B vl (.slice (some ⟨g,0,none⟩) n cap) (L.set k (⟨x.1.deed,x.1.parts,x.1.dec,l'⟩,v'))).set 2 (some g)=hro B vl (.slice (some ⟨g,0,none⟩) n cap) (L.set k (⟨x.1.deed,x.1.parts,x.1.dec,l'⟩,v')):=rfl
 rw [e2] at k3 k4
 have hsub:=k2.trans k4
 have o1:=(b.opn.kept hg (apo_off (b.ok.off (i:=2) (j:=k+3) (h2 _) h0 (by omega))))
 have o2:=OwnC.cellSet (T:=Ty.oph) (x':=(⟨x.1.deed,x.1.parts,x.1.dec,l'⟩,v')) o1 hn hk (j:=3) (by decide) (u:=v') (fun cs hR=>by
  obtain⟨vp,rfl,h1,h2,-⟩:=hR
  exact⟨vp,rfl,h1,h2,by obtain⟨a',c',rfl⟩:=ho.form;rfl⟩)
 refine⟨⟨((b.log.kept hg (apo_off (b.ok.off (i:=1) (j:=k+3) rfl h0 (by omega)))).mono hsub).kept gs (apo_off (b.ok.off (i:=1) (j:=2) rfl (h2 _) (by decide))),o2.mono hsub,fun y hy=>?_,k3,(b.grow.grown hg (fun q hq=>(b.ok.lt q (hq▸List.mem_of_getElem? h0)).1)).grown gs (fun q hq=>(b.ok.lt q (by rw [←hq];exact List.mem_of_getElem? (h2 _))).1)⟩,?_⟩
 ·obtain⟨i,hi,rfl⟩:=List.mem_iff_getElem.1 hy
  rw [List.length_set] at hi
  have hoff:ApO ((hro B vl (.slice (some ⟨g,0,none⟩) n cap) (L.set k (⟨x.1.deed,x.1.parts,x.1.dec,l'⟩,v')))[i+3]?.getD none) (some g):=by
   have h9:=HR.at_heard (B:=B) (vl:=vl) (vo:=.slice (some ⟨g,0,none⟩) n cap) (L:=L.set k (⟨x.1.deed,x.1.parts,x.1.dec,l'⟩,v')) (k:=i) (List.getElem?_eq_getElem (by rw [List.length_set];exact hi))
   rw [h9]
   exact k1.off h9 (h2 _) (by omega)
  have h9:=HR.at_heard (B:=B) (vl:=vl) (vo:=.slice (some ⟨g,0,none⟩) n cap) (L:=L.set k (⟨x.1.deed,x.1.parts,x.1.dec,l'⟩,v')) (k:=i) (List.getElem?_eq_getElem (by rw [List.length_set];exact hi))
  rw [h9] at hoff
  refine OwnC.kept ?_ gs (apo_off hoff)
  by_cases hki:k=i
  ·subst hki
   simp only [List.getElem_set_self]
   exact ho
  ·rw [List.getElem_set_ne hki]
   exact(b.heard _ (List.getElem_mem _)).kept hg (apo_off (b.ok.off (HR.at_heard (List.getElem?_eq_getElem hi)) h0 (by omega)))
 ·have o:=b.opn
  rw [hn] at o
  obtain⟨g',cs,hg',hR,hA⟩:=o.get (by decide) k hkl
  obtain rfl:g=g':=by simpa using hg'
  obtain⟨vp,rfl,-,-,-⟩:=hR
  have hx:L[k]=x:=by rw [List.getElem?_eq_getElem hkl] at hk;exact Option.some.inj hk
  have c0:=hA 0 _ rfl
  have c1:=hA 1 _ rfl
  rw [hx] at c0
  exact⟨c0,vp,c1⟩
theorem HR.at_ {w W:World} {B:Nat} {vl:Value} {lg:List Rc} {L:List OpH} {a:Option Addr} {n cap k:Nat} {x:OpH} (b:HR w W B vl (.slice a n cap) lg L) (hn:n=L.length) (hk:L[k]? =some x):
  ∃g vp,a=some ⟨g,0,none⟩∧w.heap.size≤g∧g<W.heap.size∧W.cell? ⟨g,k*4,none⟩=some (.int .i64 x.1.deed)∧W.cell? ⟨g,k*4+1,none⟩=some vp∧W.cell? ⟨g,k*4+2,none⟩=some (.bool x.1.dec)∧W.cell? ⟨g,k*4+3,none⟩=some x.2∧I64 x.1.deed∧
   Sl Ty.pt (fr w W (hro B vl (.slice a n cap) L)) vp x.1.parts∧OwnC Ty.int (fun _=>none) W w.heap.size 3 x.2 x.1.heard:=by
 have hkl:=(List.getElem?_eq_some_iff.1 hk).1
 have o:=b.opn
 rw [hn] at o
 obtain⟨g',cs,rfl,hR,hA⟩:=o.get (by decide) k hkl
 have hx:L[k]=x:=by rw [List.getElem?_eq_getElem hkl] at hk;exact Option.some.inj hk
 rw [hx] at hR
 obtain⟨vp,rfl,hi,hp,-⟩:=hR
 have hl:=b.opn.lt g' rfl
 refine⟨g',vp,rfl,hl.1,hl.2,hA 0 _ rfl,hA 1 _ rfl,hA 2 _ rfl,hA 3 _ rfl,hi,?_,b.heard x (List.mem_of_getElem? hk)⟩
 rw [hn];exact hp
theorem HR.decide {w W:World} {B:Nat} {vl:Value} {lg:List Rc} {L:List OpH} {g n cap k:Nat} {x:OpH} (b:HR w W B vl (.slice (some ⟨g,0,none⟩) n cap) lg L) (hn:n=L.length) (hk:L[k]? =some x):
  HR w ((W.setCell ⟨g,k*4+2,none⟩ (.bool true)).setCell ⟨g,k*4+3,none⟩ (.slice none 0 0)) B vl (.slice (some ⟨g,0,none⟩) n cap) lg (L.set k (⟨x.1.deed,x.1.parts,true,[]⟩,.slice none 0 0)):=by
 have gs:W.grownBy ((W.setCell ⟨g,k*4+2,none⟩ (.bool true)).setCell ⟨g,k*4+3,none⟩ (.slice none 0 0)) (some g):=grownBy_trans (grownBy_setCell W ⟨g,k*4+2,none⟩ _) (grownBy_setCell _ ⟨g,k*4+3,none⟩ _)
 have hkl:=(List.getElem?_eq_some_iff.1 hk).1
 have o1:=OwnC.cellSet (T:=Ty.oph) (x':=(⟨x.1.deed,x.1.parts,true,x.1.heard⟩,x.2)) b.opn hn hk (j:=2) (by decide) (u:=.bool true) (fun cs hR=>by
  obtain⟨vp,rfl,h1,h2,h3⟩:=hR
  exact⟨vp,rfl,h1,h2,h3⟩)
 have hk2:(L.set k (⟨x.1.deed,x.1.parts,true,x.1.heard⟩,x.2))[k]? =some (⟨x.1.deed,x.1.parts,true,x.1.heard⟩,x.2):=by rw [List.getElem?_set_self hkl]
 have o2:=OwnC.cellSet (T:=Ty.oph) (x':=(⟨x.1.deed,x.1.parts,true,[]⟩,.slice none 0 0)) o1 (by rw [List.length_set];exact hn) hk2 (j:=3) (by decide) (u:=.slice none 0 0) (fun cs hR=>by
  obtain⟨vp,rfl,h1,h2,-⟩:=hR
  exact⟨vp,rfl,h1,h2,rfl⟩)
 rw [List.set_set] at o2
 refine b.put (vo':=.slice (some ⟨g,0,none⟩) n cap) gs (.inl rfl) o2 (fun y hy=>?_) ?_
 ·rcases List.mem_or_eq_of_mem_set hy with h|rfl
  ·exact .inl h
  ·exact .inr ⟨rfl,rfl⟩
 ·rw [List.map_set]
  have p:(L.map (·.2.ownBlock)).Pairwise ApO:=by
   have p:=b.ok.pw
   unfold hro at p
   simp only [List.pairwise_cons] at p
   exact p.2.2.2
  rw [List.pairwise_iff_getElem]
  intro i j hi hj hij
  rw [List.getElem_set,List.getElem_set]
  by_cases h1:k=i
  ·rw [if_pos h1];exact .inl rfl
  ·rw [if_neg h1]
   by_cases h2:k=j
   ·rw [if_pos h2];exact ApO.symm (.inl rfl)
   ·rw [if_neg h2]
    rw [List.length_set] at hi hj
    exact List.pairwise_iff_getElem.1 p i j hi hj hij
theorem delete_oph {c:CM} {w:World} {base g cap k:Nat} {L:List OpH} (h:OwnC Ty.oph c w base 147 (.slice (some ⟨g,0,none⟩) L.length cap) L) (hk:k<L.length):
  Calls Tryz.prog 106 #[.slice (some ⟨g,0,none⟩) L.length cap,.int .i64 k,.int .i64 ((k:Int)+1)] w fun e w'=>e=.returned (.slice (some ⟨g,0,none⟩) (L.length - 1) cap)∧OwnC Ty.oph c w' base 147 (.slice (some ⟨g,0,none⟩) (L.length - 1) cap) (L.eraseIdx k)∧w.grownBy w' (some g):=by
 obtain⟨css,h1,h2,h3⟩:=h
 refine(delete_opn (i:=k) h1 hk (fun u hu=>?_)).mono ?_
 ·obtain⟨cs,hcs,huc⟩:=List.mem_flatten.1 hu
  obtain⟨i,hi,rfl⟩:=List.mem_iff_getElem.1 hcs
  exact one_Toph _ _ _ (h3 i css[i] L[i] (by simp) (by simp)) u huc
 ·rintro e w' ⟨rfl,ho,hg⟩
  exact⟨rfl,OwnC.erase (T:=Ty.oph) h2 h3 (Sub.refl _) hk ho,hg⟩
theorem HR.erase {w W W2:World} {B:Nat} {vl vo':Value} {lg:List Rc} {L:List OpH} {g n cap k:Nat} (b:HR w W B vl (.slice (some ⟨g,0,none⟩) n cap) lg L) (hg:W.grownBy W2 (some g)) (hv:vo'.ownBlock=some g)
  (ho:OwnC Ty.oph (fr w W (hro B vl (.slice (some ⟨g,0,none⟩) n cap) L)) W2 w.heap.size 147 vo' (L.eraseIdx k)):HR w W2 B vl vo' lg (L.eraseIdx k):=by
 refine b.put (vo':=vo') hg (.inl hv) ho (fun y hy=>.inl (List.mem_of_mem_eraseIdx hy)) ?_
 have p:=b.ok.pw
 unfold hro at p
 simp only [List.pairwise_cons] at p
 exact p.2.2.2.sublist ((List.eraseIdx_sublist _ _).map _)
theorem RowsOk.perm {w W:World} {X Y:List (Option Nat)} (h:RowsOk w W X) (hp:X.Perm Y):RowsOk w W Y∧Sub (fr w W X) (fr w W Y):=
 h.less ((List.Perm.pairwise_iff (fun h=>ApO.symm h) hp).1 h.pw) fun _ hq=>hp.mem_iff.2 hq
theorem RowsOk.cons {w W:World} {X:List (Option Nat)} {r:Option Nat} (h:RowsOk w W X) (hr:∀q,r=some q→w.heap.size≤q∧q<W.heap.size∧some q∉X):RowsOk w W (r::X):=by
 refine⟨List.pairwise_cons.2 ⟨fun u hu=>?_,h.pw⟩,fun q hq=>?_⟩
 ·cases r with
  |none=>exact .inl rfl
  |some q=>exact .inr fun e=>(hr q rfl).2.2 (e▸hu)
 ·rcases List.mem_cons.1 hq with e|hq
  ·have:=hr q e.symm;omega
  ·exact h.lt q hq
theorem HR.ahead {w W0 W:World} {B:Nat} {vl vo:Value} {lg:List Rc} {L:List OpH} {r:Option Nat} (b:HR w W0 B vl vo lg L) (h0:Grow W0 W) (hr:∀q,r=some q→W0.heap.size≤q∧q<W.heap.size):
  RowsOk w W (r::hro B vl vo L)∧Sub (fr w W0 (hro B vl vo L)) (fr w W (r::hro B vl vo L)):=by
 have hs:=h0.size
 have hw:=b.grow.size
 refine⟨(b.ok.later hs).cons fun q hq=>⟨by have:=hr q hq;omega,(hr q hq).2,fun hm=>by have:=(b.ok.lt q hm).2;have:=hr q hq;omega⟩,fr_step fun k hk _ hx=>⟨h0.block k hk,fun hm=>?_⟩⟩
 rcases List.mem_cons.1 hm with e|hm
 ·have:=(hr k e.symm).1;omega
 ·exact hx hm
theorem HR.snoc {w W0 W W2:World} {B:Nat} {vl vo vo':Value} {lg:List Rc} {L:List OpH} {x:OpH} (b:HR w W0 B vl vo lg L) (h0:Grow W0 W) (hx:OwnC Ty.int (fun _=>none) W W0.heap.size 3 x.2 x.1.heard)
  (hg:W.grownBy W2 vo.ownBlock) (hb:vo'.ownBlock=vo.ownBlock∨∃g,vo'.ownBlock=some g∧W.heap.size≤g)
  (ho:OwnC Ty.oph (fr w W (x.2.ownBlock::hro B vl vo L)) W2 w.heap.size 147 vo' (L++ [x])):HR w W2 B vl vo' lg (L++ [x]):=by
 obtain⟨j1,j2⟩:=b.ahead h0 hx.lt
 have hvo:(x.2.ownBlock::hro B vl vo L)[3]? =some vo.ownBlock:=rfl
 obtain⟨k1,k2⟩:=j1.step hvo hg hb ho.lt
 have e:(x.2.ownBlock::hro B vl vo L).set 3 vo'.ownBlock=x.2.ownBlock::hro B vl vo' L:=rfl
 rw [e] at k1 k2
 have hp:(x.2.ownBlock::hro B vl vo' L).Perm (hro B vl vo' (L++ [x])):=by
  have e2:hro B vl vo' (L++ [x])=hro B vl vo' L++ [x.2.ownBlock]:=by simp [hro]
  rw [e2]
  exact(List.perm_append_singleton _ _).symm
 obtain⟨m1,m2⟩:=k1.perm hp
 have s:=k2.trans m2
 have sz:=h0.size
 refine⟨((((b.log.grow h0).kept hg (apo_off (b.ok.off (i:=1) (j:=2) rfl rfl (by decide)))).mono j2).mono s),ho.mono s,fun y hy=>?_,m1,(b.grow.trans h0).grown hg (fun k hk=>(b.opn.lt k hk).1)⟩
 rcases List.mem_append.1 hy with hy|hy
 ·obtain⟨i,hi,rfl⟩:=List.mem_iff_getElem.1 hy
  exact((b.heard _ hy).grow h0).kept hg (apo_off (b.ok.off (HR.at_heard (List.getElem?_eq_getElem hi)) (j:=2) rfl (by omega)))
 ·obtain rfl:=List.mem_singleton.1 hy
  refine(hx.base b.grow.size).kept hg ?_
  cases h9:y.2.ownBlock with
  |none=>exact .inl rfl
  |some q=>
   refine .inr fun e9=>?_
   have h1:=(hx.lt q h9).1
   have h2:=(b.ok.lt q (by rw [e9];exact List.mem_of_getElem? (i:=2) rfl)).2
   omega
theorem HR.start {w wc w1 W:World} {B:Nat} {vl:Value} {lg:List Rc} (h:OwnC Ty.rc (fr wc w1 [vl.ownBlock]) w1 wc.heap.size 81 vl lg) (hw:w.heap.size≤wc.heap.size) (hs:w1.heap.size≤W.heap.size)
  (hb:∀k,k<w1.heap.size→wc.heap.size≤k→k≠B∧W.heap[k]? =w1.heap[k]?) (hB:w.heap.size≤B∧B<W.heap.size) (hg:Grow w W):HR w W B vl (.slice none 0 0) lg []:=by
 have hl:=h.lt
 have hsub:Sub (fr wc w1 [vl.ownBlock]) (fr w W (hro B vl (.slice none 0 0) [])):=fun a v e=>by
  have hlt:=World.block_lt_of_cell? w1 a (fr_sub _ _ _ _ _ e)
  unfold fr at e
  split at e
  ·cases e
  ·rename_i hn
   have h1:¬a.block<wc.heap.size:=fun hx=>hn (.inl hx)
   have h2:some a.block≠vl.ownBlock:=fun hx=>hn (.inr (by rw [hx];simp))
   obtain⟨h3,h4⟩:=hb a.block hlt (by omega)
   rw [fr_new (by omega) (by
    unfold hro
    simp only [List.map_nil,List.mem_cons,List.not_mem_nil,or_false,not_or]
    exact⟨fun e=>h3 (Option.some.inj e),h2,by simp [Value.ownBlock]⟩),World.cell?_of_block h4]
   exact e
 refine⟨((h.mono hsub).block fun k hk=>(hb k (hl k hk).2 (hl k hk).1).2).base hw,OwnC.nil _ _ _ _ _,fun x hx=>(by cases hx),⟨?_,fun q hq=>?_⟩,hg⟩
 ·unfold hro
  simp only [List.map_nil,List.pairwise_cons,List.mem_cons,List.not_mem_nil,or_false,List.Pairwise.nil,and_true,forall_eq,forall_eq_or_imp]
  refine⟨⟨ApO.symm ?_,ApO.symm (.inl rfl)⟩,ApO.symm (.inl rfl),fun _ h=>by cases h⟩
  cases h9:vl.ownBlock with
  |none=>exact .inl rfl
  |some q=>exact .inr fun e=>(hb q (hl q h9).2 (hl q h9).1).1 (Option.some.inj e)
 ·unfold hro at hq
  simp only [List.map_nil,List.mem_cons,List.not_mem_nil,or_false] at hq
  rcases hq with e|e|e
  ·have:=Option.some.inj e;omega
  ·have:=hl q e.symm;omega
  ·cases e
theorem HR.rebox {w W W2:World} {B B':Nat} {vl vo:Value} {lg:List Rc} {L:List OpH} (b:HR w W B vl vo lg L) (hg:Grow W W2) (h1:W.heap.size≤B') (h2:B'<W2.heap.size):HR w W2 B' vl vo lg L:=by
 have hw:=b.grow.size
 have hsub:Sub (fr w W (hro B vl vo L)) (fr w W2 (hro B' vl vo L)):=fr_step fun k hk _ hx=>⟨hg.block k hk,fun hm=>by
  unfold hro at hx hm
  rcases List.mem_cons.1 hm with e|hm
  ·have:=Option.some.inj e;omega
  ·exact hx (List.mem_cons.2 (.inr hm))⟩
 refine⟨(b.log.mono hsub).grow hg,(b.opn.mono hsub).grow hg,fun x hx=>(b.heard x hx).grow hg,?_,b.grow.trans hg⟩
 have p:=b.ok.pw
 have l:=b.ok.lt
 have sz:=hg.size
 unfold hro at p l ⊢
 rw [List.pairwise_cons] at p
 refine RowsOk.cons ⟨p.2,fun q hq=>?_⟩ fun q hq=>?_
 ·have:=l q (List.mem_cons.2 (.inr hq));omega
 ·obtain rfl:=Option.some.inj hq
  exact⟨by omega,h2,fun hm=>by have:=(l B' (List.mem_cons.2 (.inr hm))).2;omega⟩
theorem OwnC.slb {α:Type} {T:Ty α} {c d:CM} (h0:0<T.size) {w:World} {base e:Nat} {v:Value} {l:List α} (h:OwnC T c w base e v l) (hs:Sub c d) (hd:∀a:Addr,v.ownBlock=some a.block→d a=w.cell? a):Sl T d v l:=by
 obtain⟨css,⟨hl,hs'⟩,h2,h3⟩:=h
 have hcl:=css_len h2 h3
 rcases hs' with⟨rfl,hn⟩|⟨g,cap,cur,rfl,hg,hrow,hnc,hcm,hcs,htake⟩
 ·have:l=[]:=List.eq_nil_of_length_eq_zero hn
  subst this
  exact⟨none,0,rfl,Nat.le_refl _,Nat.zero_le _,fun _=>rfl,fun i x e=>by simp at e⟩
 ·refine⟨some ⟨g,0,none⟩,cap,rfl,hnc,hcm,by simp,fun i x e=>?_⟩
  have hi:i<l.length:=(List.getElem?_eq_some_iff.1 e).1
  have hc:css[i]? =some css[i]:=List.getElem?_eq_getElem (by omega)
  refine⟨g,0,css[i],rfl,T.mono hs (h3 i _ x hc e),fun j u hu=>?_⟩
  have hj:j<T.size:=by rw [←hcl css[i] (List.getElem_mem _)];exact(List.getElem?_eq_some_iff.1 hu).1
  have hx:css.flatten[i*T.size+j]? =some u:=by
   rw [flatten_at h0 css hcl,Nat.mul_comm,Nat.mul_add_div h0,Nat.div_eq_of_lt hj,Nat.add_zero,hc,Nat.mul_add_mod,Nat.mod_eq_of_lt hj];exact hu
  rw [←htake,List.getElem?_take] at hx
  rw [hd _ (by rfl)]
  split at hx
  ·simp only [World.cell?,hrow];simpa using hx
  ·cases hx
theorem HR.past {w0 w W W2:World} {B A:Nat} {vl vo:Value} {lg:List Rc} {L:List OpH} (b:HR w W B vl vo lg L) (h:Grow w0 w) (hg:W.grownBy W2 (some A)) (hA:w0.heap.size≤A∧A<w.heap.size):HR w0 W2 B vl vo lg L:=by
 have hs:=h.size
 have ne:∀q,some q∈hro B vl vo L→q≠A:=fun q hq=>by have:=b.ok.lt q hq;omega
 have sub:Sub (fr w W (hro B vl vo L)) (fr w0 W2 (hro B vl vo L)):=(fr_step (W0:=w) (w':=W2) (X':=hro B vl vo L) fun k hk h0 hx=>⟨hg.block k hk (fun e=>by have:=Option.some.inj e;omega),hx⟩).trans (fr_low hs)
 have off:∀{v:Value} {i:Nat},(hro B vl vo L)[i]? =some v.ownBlock→v.ownBlock=none∨v.ownBlock≠some A:=fun {v i} hi=>by
  cases e:v.ownBlock with
  |none=>exact .inl rfl
  |some q=>exact .inr fun e2=>ne q (by rw [←e];exact List.mem_of_getElem? hi) (Option.some.inj e2)
 refine⟨((b.log.mono sub).base hs).kept hg (off (i:=1) rfl),((b.opn.mono sub).base hs).kept hg (off (i:=2) rfl),fun x hx=>?_,⟨b.ok.pw,fun q hq=>by have:=b.ok.lt q hq;have:=hg.size;omega⟩,(h.trans b.grow).grown hg (fun q hq=>by have:=Option.some.inj hq;omega)⟩
 obtain⟨i,hi,rfl⟩:=List.mem_iff_getElem.1 hx
 exact((b.heard _ hx).base hs).kept hg (off (HR.at_heard (List.getElem?_eq_getElem hi)))
theorem own_apart {α:Type} {T:Ty α} {c:CM} {w:World} {base e B:Nat} {v:Value} {l:List α} (h:OwnC T c w base e v l) (hB:B<base):v.ownBlock=none∨v.ownBlock≠some B:=by
 cases e:v.ownBlock with
 |none=>exact .inl rfl
 |some q=>exact .inr (by have:=(h.lt q e).1;intro e2;have:=Option.some.inj e2;omega)
theorem begin_full {h:Hd} {P:List Pt} (hf:fullE h=true):beginH h P=h∧beginM h P=[]∧beginE h=9:=by
 unfold beginH beginM beginE
 rw [if_pos hf,if_pos hf,if_pos hf]
 exact⟨rfl,rfl,rfl⟩
theorem begin_go {h:Hd} {P:List Pt} (hf:fullE h=false):beginH h P={ h with opn:=h.opn++ [newO h P],next:=h.next+1 }∧beginM h P=asksE (newO h P)∧beginE h=0:=by
 unfold beginH beginM beginE
 rw [if_neg (by simp [hf]),if_neg (by simp [hf]),if_neg (by simp [hf])]
 exact⟨rfl,rfl,rfl⟩
def fc (c:CM) (W0 w:World) (X:List (Option Nat)):CM:=fun a=>if a.block<W0.heap.size then c a else fr W0 w X a
theorem fc_step {c:CM} {W0 w w':World} {X X':List (Option Nat)} (h:∀k,k<w.heap.size→W0.heap.size≤k→some k∉X→w'.heap[k]? =w.heap[k]?∧some k∉X'):Sub (fc c W0 w X) (fc c W0 w' X'):=fun a v e=>by
 unfold fc at e ⊢
 split at e
 ·rw [if_pos ‹_›];exact e
 ·rw [if_neg ‹_›];exact fr_step h a v e
theorem fc_grow {c:CM} {W0 w w':World} {X:List (Option Nat)} (h:Grow w w'):Sub (fc c W0 w X) (fc c W0 w' X):=fc_step fun k hk _ hx=>⟨h.block k hk,hx⟩
theorem fc_app {c:CM} {W0 w w':World} {v v':Value} (hg:w.grownBy w' v.ownBlock) (hb:v'.ownBlock=v.ownBlock∨∃g,v'.ownBlock=some g∧w.heap.size≤g):Sub (fc c W0 w [v.ownBlock]) (fc c W0 w' [v'.ownBlock]):=
 fc_step fun k hk _ hx=>by
  simp only [List.mem_singleton] at hx
  refine⟨hg.block k hk hx,?_⟩
  simp only [List.mem_singleton]
  intro e
  rcases hb with hb|⟨g,hb,hge⟩
  ·exact hx (e.trans hb)
  ·have:=Option.some.inj (e.trans hb)
   omega
theorem fc_box {c:CM} {W0 w w':World} {B:Nat} {X:List (Option Nat)} (hg:w.grownBy w' (some B)) (hB:B<W0.heap.size):Sub (fc c W0 w X) (fc c W0 w' X):=
 fc_step fun k hk h0 hx=>⟨hg.block k hk (fun e=>by have:=Option.some.inj e;omega),hx⟩
def isNew (o:Opn) (m:Ms):Prop:=m.house∈housesE o.parts∧m.house∉o.heard
instance (o:Opn) (m:Ms):Decidable (isNew o m):=by unfold isNew;infer_instance
structure QBox (c:CM) (w wz wr:World) (h:Hd) (s:HGo) (vl vo vs:Value):Prop where
 row:wr.heap[w.heap.size+3]? =some (.cells #[vl,.int .i64 h.boot,.int .i64 h.next,vo] 35 (0,0))
 log:Sl Ty.rc (fc c wz wr [vo.ownBlock]) vl (h.log++s.recs)
 opn:OwnC Ty.opn (fc c wz wr [vo.ownBlock]) wr (w.heap.size+4) 147 vo s.opn
 says:Sl Ty.ms (fc c wz wr [vo.ownBlock]) vs s.says
 old:∀k,k<3→wr.heap[w.heap.size+k]? =wz.heap[w.heap.size+k]?
 grow:Grow w wr
 zsize:wz.heap.size=w.heap.size+4
theorem QBox.size {c:CM} {w wz wr:World} {h:Hd} {s:HGo} {vl vo vs:Value} (b:QBox c w wz wr h s vl vo vs):w.heap.size+4≤wr.heap.size:=by
 have:=(γ b.row)
 omega
theorem QBox.later {c:CM} {w wz wr W:World} {h:Hd} {s:HGo} {vl vo vs:Value} (b:QBox c w wz wr h s vl vo vs) (hg:Grow wr W):QBox c w wz W h s vl vo vs where
 row:=row_grow b.row hg
 log:=b.log.mono (fc_grow hg)
 opn:=(b.opn.mono (fc_grow hg)).grow hg
 says:=b.says.mono (fc_grow hg)
 old:=fun k hk=>by rw [hg.block _ (by have:=b.size;omega)];exact b.old k hk
 grow:=b.grow.trans hg
 zsize:=b.zsize
theorem QBox.app {c:CM} {w wz wr wl w9 W:World} {h:Hd} {so:List Opn} {sr:List Rc} {ss:List Ms} {sk:Bool} {vl vo vs v9:Value} (b:QBox c w wz wr h ⟨so,sr,ss,sk⟩ vl vo vs) (o:Opn) (hgl:Grow wr wl) (hg9:wl.grownBy w9 vo.ownBlock)
  (hb9:v9.ownBlock=vo.ownBlock∨∃g,v9.ownBlock=some g∧wl.heap.size≤g) (ho9:OwnC Ty.opn (fc c wz wr [vo.ownBlock]) w9 (w.heap.size+4) 147 v9 (so++ [o])) (hg:w9.grownBy W (some (w.heap.size+3)))
  (r:W.heap[w.heap.size+3]? =some (.cells #[vl,.int .i64 h.boot,.int .i64 h.next,v9] 35 (0,0))):QBox c w wz W h ⟨so++ [o],sr,ss,sk⟩ vl v9 vs:=by
 have hsz:=b.size
 have hz:=b.zsize
 have hm:Sub (fc c wz wr [vo.ownBlock]) (fc c wz W [v9.ownBlock]):=
  ((fc_grow hgl).trans (fc_app hg9 hb9)).trans (fc_box hg (by omega))
 have hvo:∀q,vo.ownBlock=some q→w.heap.size+4≤q:=fun q e=>(b.opn.lt q e).1
 refine⟨r,b.log.mono hm,(ho9.mono hm).kept hg (own_apart ho9 (by omega)),b.says.mono hm,fun k hk=>?_,?_,hz⟩
 ·rw [hg.block _ (by have:=hg9.size;have:=hgl.size;omega) (fun e=>by have:=Option.some.inj e;omega),hg9.block _ (by have:=hgl.size;omega) (fun e=>by have:=hvo _ e.symm;omega),hgl.block _ (by omega)]
  exact b.old k hk
 ·exact((b.grow.trans hgl).grown hg9 (fun q e=>by have:=hvo q e;omega)).grown hg (fun q e=>by have:=Option.some.inj e;omega)
theorem info_ints:(Tryz.prog.info? 47).map (·.size)=some 1:=by kernel_rfl
theorem info_rcs:(Tryz.prog.info? 32).map (·.size)=some 1:=by kernel_rfl
theorem info_pts1:(Tryz.prog.info? 26).map (·.size)=some 1:=by kernel_rfl
theorem off_of {v:Value} {B:Nat} (h:∀q,v.ownBlock=some q→q≠B):v.ownBlock=none∨v.ownBlock≠some B:=by
 cases e:v.ownBlock with
 |none=>exact .inl rfl
 |some q=>exact .inr fun e2=>h q e (Option.some.inj e2)
theorem sl_ints {c:CM} {v:Value} {l:List Int} (h:Sl Ty.int c v l):∀x∈l,I64 x:=fun x hx=>by
 obtain⟨a,cap,rfl,-,-,-,hel⟩:=h
 obtain⟨i,hi,rfl⟩:=List.mem_iff_getElem.1 hx
 obtain⟨b,o,cs,-,⟨-,h9⟩,-⟩:=hel i _ (List.getElem?_eq_getElem hi)
 exact h9
set_option maxRecDepth 100000 in
set_option maxHeartbeats 4000000 in
theorem head_own {v:Value} {h:Hd} (w:World) (hv:Of Ty.hd w.cell? v h) (hk:HdOk h) (hp:∀r∈h.log,r.parts.length*24≤140737488355328):
  Calls Tryz.prog 44 #[v] w fun e w'=>∃vl vo B L,e=.returned (.agg #[vl,.int .i64 h.boot,.int .i64 h.next,vo])∧L.map (·.1)=h.opn∧HR w w' B vl vo h.log L:=by
 obtain⟨al,cl,ar,cr,rfl⟩:=hv.hd_form
 obtain⟨ar',cr',he,h1,h2,-,hel⟩:=(Of.hd_log hv).2
 obtain⟨rfl,rfl⟩:ar=ar'∧cr=cr':=by simpa using he
 unfold maxLen at h2
 have HLO:=η (fun(W:World) (hW:Grow w W)=>log_own W ((Of.hd_log hv).1.mono hW.sub) (by have:=hk.log;omega) hp)
 have HOP:=η hk.parts
 have HHE:=η hk.heard
 have h12:=hk.opn
 clear hk he hv hp
 obtain⟨wa,hwa⟩:∃y:World,y=w.alloc (.cells #[.slice al h.log.length cl,.int .i64 h.boot,.int .i64 h.next,.slice ar h.opn.length cr] 35):=⟨_,rfl⟩
 obtain⟨wz,hwz⟩:∃y:World,y=wa.alloc (.cells #[.slice none 0 0,.int .i64 0,.int .i64 0,.slice none 0 0] 35):=⟨_,rfl⟩
 have hsz:wa.heap.size=w.heap.size+1:=by rw [hwa];simp
 have R1:Hid (wz.heap[w.heap.size]? =some (.cells #[.slice al h.log.length cl,.int .i64 h.boot,.int .i64 h.next,.slice ar h.opn.length cr] 35 (0,0))):=η (by rw [hwz,hwa];exact heap_later (row_new _ _) _)
 have R2:Hid (wz.heap[w.heap.size+1]? =some (.cells #[.slice none 0 0,.int .i64 0,.int .i64 0,.slice none 0 0] 35 (0,0))):=η (by rw [hwz,←hsz];exact row_new _ _)
 have G1:Hid (Grow w wz):=η (by rw [hwz,hwa];exact((Grow.refl w).alloc _).alloc _)
 have HZ:Hid (wz.heap.size=w.heap.size+2):=η (by rw [hwz,hwa];simp)
 have HS:Hid (∀W,Grow wz W→W.cell? ⟨w.heap.size,0,none⟩=some (.slice al h.log.length cl)∧W.cell? ⟨w.heap.size,1,none⟩=some (.int .i64 h.boot)∧W.cell? ⟨w.heap.size,2,none⟩=some (.int .i64 h.next)):=fun W hW=>by
  obtain⟨j0,j1,j2,-⟩:=cells4 (row_grow R1.o hW)
  exact⟨j0,j1,j2⟩
 go_enter Tryz.func44,Tryz.ntmps44
 go_upto_region 1 with fail
 rw [←hwa]
 try rw [hsz]
 rw [←hwz]
 clear hwa hwz hsz
 go_cut [3,36] from 6 (fun s3 s36 wc=>s36=undef∧∃B3 a3 c3,s3=.pointer (some ⟨B3,0,none⟩)∧wc.heap[B3]? =some (.cells #[.slice a3 h.log.length c3,.int .i64 h.boot,.int .i64 h.next,.slice none 0 0] 35 (0,0))∧HR wz wc B3 (.slice a3 h.log.length c3) (.slice none 0 0) h.log [])
 case first=>
  refine bSc (fun w'=>w'.cell? ⟨w.heap.size,0,none⟩=some (.slice al h.log.length cl)∧w'.cell? ⟨w.heap.size,1,none⟩=some (.int .i64 h.boot)∧w'.cell? ⟨w.heap.size,2,none⟩=some (.int .i64 h.next)) [9] (by kernel_rfl) ?_
  intro wd GD zD
  have ZD:=η zD
  clear zD
  refine bLc [0,1,3,4,5,6] 12 (by kernel_rfl) (fun _ _ _ _ _ h=>h) (HS.o _ GD) ?_
  repeat (refine tNc (v:=?_) rfl (by rfl) ?_ ?_;rotate_left;(· (intro w' hSw;(try dsimp only at hSw);obtain⟨hs0,hs1,hs2⟩:=hSw;go_simp<;>with_reducible rfl));try simp only [Act.put,lzA,lzB,lzC,lzD,lzE,lzF])
  refine tEc ?_
  refine bPc 2 8 (by kernel_rfl) rfl rfl ?_ ?_
  ·intro K HK
   try simp only [lzA,lzB,lzC]
   go_simp
   go_at_call 64
   refine(HLO.o _ (G1.o.trans GD)).mono ?_
   rintro e w1 ⟨vl,rfl,hol,hb1⟩
   obtain⟨a3,c3,rfl⟩:=hol.form
   have HOL:=η hol
   have G2:=η (Grow.trans GD hb1)
   have GB1:=η hb1
   clear hol hb1
   refine HK.o _ _ ⟨.inr (HS.o _ G2.o),?_⟩
   clear HK K
   try simp only [Act.put,lzA,lzB,lzC,lzD,lzE,lzF]
   refine bLc [7] 12 (by kernel_rfl) (fun _ _ _ _ _ h=>h) (HS.o _ G2.o) ?_
   repeat (refine tNc (v:=?_) rfl (by rfl) ?_ ?_;rotate_left;(· (intro w' hSw;(try dsimp only at hSw);obtain⟨hs0,hs1,hs2⟩:=hSw;go_simp<;>with_reducible rfl));try simp only [Act.put,lzA,lzB,lzC,lzD,lzE,lzF])
   refine tEc ?_
   refine bOc 8 (by kernel_rfl) rfl ?_
   intro K HK
   try simp only [lzA,lzB,lzC]
   go_simp
   obtain⟨w8,hw8⟩:∃y:World,y=w1.alloc (.cells #[.slice none 0 0,.int .i64 0,.int .i64 0,.slice none 0 0] 35):=⟨_,rfl⟩
   obtain⟨B3,hB3⟩:∃B,B=w1.heap.size:=⟨_,rfl⟩
   rw [←hw8,←hB3]
   have R3:Hid (w8.heap[B3]? =some (.cells #[.slice none 0 0,.int .i64 0,.int .i64 0,.slice none 0 0] 35 (0,0))):=η (by rw [hw8,hB3];exact row_new _ _)
   have G8:Hid (Grow w1 w8):=η (by rw [hw8];exact(Grow.refl _).alloc _)
   have HB3:=η hB3
   have HS8:Hid (w8.heap.size=B3+1):=η (by rw [hw8,hB3];simp)
   have GA8:=η (Grow.trans G2.o G8.o)
   clear hw8 hB3
   refine HK.o _ _ ⟨.inr (HS.o _ GA8.o),?_⟩
   clear HK K
   try simp only [Act.put,lzA,lzB,lzC,lzD,lzE,lzF]
   refine bOc 9 (by kernel_rfl) rfl ?_
   intro K HK
   refine wanted_go rfl ?_
   try simp only [lzA,lzB,lzC]
   refine wp_store_row (.tmp 3) (.tmp 13) rfl rfl rfl R3.o info_hd rfl rfl ?_
   intro wc rc gc
   refine HK.o _ _ ⟨.inl (by decide),?_⟩
   clear HK K
   try simp only [Act.put]
   refine bDc (by kernel_rfl) ?_
   go_wp2
   go_meet
   case rel=>
    have z1:=HZ.o
    have z2:=ZD.o
    have z3:=HS8.o
    have z4:=HB3.o
    have z5:=(GA8.o).size
    have z6:=gc.size
    have z7:=GB1.o.size
    have GC:Grow wz wc:=(GA8.o).grown gc (fun q hq=>by have:=Option.some.inj hq;omega)
    exact⟨rfl,B3,a3,c3,rfl,rc,HR.start HOL.o (by have:=(GD).size;omega) (by omega) (fun k h1 h2=>⟨by omega,by rw [gc.block k (by omega) (fun e=>by have:=Option.some.inj e;omega),G8.o.block k (by omega)]⟩) (by omega) GC⟩
  ·intro K HK
   try simp only [lzA,lzB,lzC]
   go_simp
   obtain⟨w8,hw8⟩:∃y:World,y=wd.alloc (.cells #[.slice none 0 0,.int .i64 0,.int .i64 0,.slice none 0 0] 35):=⟨_,rfl⟩
   obtain⟨B3,hB3⟩:∃B,B=wd.heap.size:=⟨_,rfl⟩
   rw [←hw8,←hB3]
   have R3:Hid (w8.heap[B3]? =some (.cells #[.slice none 0 0,.int .i64 0,.int .i64 0,.slice none 0 0] 35 (0,0))):=η (by rw [hw8,hB3];exact row_new _ _)
   have G8:Hid (Grow wd w8):=η (by rw [hw8];exact(Grow.refl _).alloc _)
   have HB3:=η hB3
   have HS8:Hid (w8.heap.size=B3+1):=η (by rw [hw8,hB3];simp)
   have GA8:=η (Grow.trans GD G8.o)
   clear hw8 hB3
   refine HK.o _ _ ⟨.inr (HS.o _ GA8.o),?_⟩
   clear HK K
   try simp only [Act.put,lzA,lzB,lzC,lzD,lzE,lzF]
   refine bOc 2 (by kernel_rfl) rfl ?_
   intro K HK
   try simp only [lzA,lzB,lzC]
   go_simp
   go_at_call 64
   refine(HLO.o _ (G1.o.trans GA8.o)).mono ?_
   rintro e w1 ⟨vl,rfl,hol,hb1⟩
   obtain⟨a3,c3,rfl⟩:=hol.form
   have HOL:=η hol
   have G2:=η (Grow.trans GA8.o hb1)
   have GB1:=η hb1
   clear hol hb1
   have R31:=η (row_grow R3.o GB1.o)
   refine HK.o _ _ ⟨.inr (HS.o _ G2.o),?_⟩
   clear HK K
   try simp only [Act.put,lzA,lzB,lzC,lzD,lzE,lzF]
   refine bLc [7] 12 (by kernel_rfl) (fun _ _ _ _ _ h=>h) (HS.o _ G2.o) ?_
   repeat (refine tNc (v:=?_) rfl (by rfl) ?_ ?_;rotate_left;(· (intro w' hSw;(try dsimp only at hSw);obtain⟨hs0,hs1,hs2⟩:=hSw;go_simp<;>with_reducible rfl));try simp only [Act.put,lzA,lzB,lzC,lzD,lzE,lzF])
   refine tEc ?_
   refine bOc 9 (by kernel_rfl) rfl ?_
   intro K HK
   refine wanted_go rfl ?_
   try simp only [lzA,lzB,lzC]
   refine wp_store_row (.tmp 3) (.tmp 13) rfl rfl rfl R31.o info_hd rfl rfl ?_
   intro wc rc gc
   refine HK.o _ _ ⟨.inl (by decide),?_⟩
   clear HK K
   try simp only [Act.put]
   refine bDc (by kernel_rfl) ?_
   go_wp2
   go_meet
   case rel=>
    have z1:=HZ.o
    have z2:=ZD.o
    have z3:=HS8.o
    have z4:=HB3.o
    have z5:=(G2.o).size
    have z6:=gc.size
    have z7:=GB1.o.size
    have GC:Grow wz wc:=(G2.o).grown gc (fun q hq=>by have:=Option.some.inj hq;omega)
    exact⟨rfl,B3,a3,c3,rfl,rc,HR.start HOL.o (by have:=(GA8.o).size;omega) (by omega) (fun k h1 h2=>⟨by omega,gc.block k (by omega) (fun e=>by have:=Option.some.inj e;omega)⟩) (by omega) GC⟩
 case rest=>
 obtain⟨rfl,B3,a3,c3,rfl,r3,hr⟩:=hcut
 have GC:=η hr.grow
 have R1C:=η (row_grow R1.o GC.o)
 obtain⟨c0,c1,c2,c4⟩:=cells4 R1C.o
 have z1:w.heap.size<wc.heap.size:=(γ R1C.o)
 have R3:=η r3
 have HR0:=η hr
 clear HS r3 hr
 go_wp2
 clear c0 c1 c2 c4 z1
 go_loopw [17] (fun i wr=>∃(ao:Option Addr) (co:Nat) (L:List OpH),L.length≤h.opn.length∧i=.int .i64 L.length∧L.map (·.1)=h.opn.take L.length∧wr.heap[B3]? =some (.cells #[.slice a3 h.log.length c3,.int .i64 h.boot,.int .i64 h.next,.slice ao L.length co] 35 (0,0))∧HR wz wr B3 (.slice a3 h.log.length c3) (.slice ao L.length co) h.log L) (fun i _=>h.opn.length - (intOf i).toNat)
 case atStart=>exact⟨none,0,[],by simp,rfl,rfl,R3.o,HR0.o⟩
 case round=>
  obtain⟨ao,co,L,hk',rfl,hL,hrow,hr⟩:=hrel
  have HG:=η hr.grow
  have HRW:=η hrow
  have HRR:=η hr
  have HLM:=η hL
  clear hrow hr hL
  have GW:=η (G1.o.trans HG.o)
  by_cases hlt:L.length<h.opn.length
  ·have HTK:Hid (h.opn.take (L.length+1)=h.opn.take L.length++ [h.opn[L.length]]):=η (by rw [List.take_succ_eq_append_getElem hlt])
   obtain⟨b,o,vp,vh,rfl,c0,c1,c2,c3',i0,hP,hH⟩:=Opns.at_ hel L.length hlt
   obtain⟨ap,cp,rfl,-⟩:=id hP
   obtain⟨ah,ch,rfl,-⟩:=id hH
   have HPO:=η (Pts.ok (c:=w.cell?) hP)
   have HIO:=η (sl_ints hH)
   have HC1:=η (fun(W:World) (hW:Grow w W)=>clone_pt W (hP.mono hW.sub) (by have:=HOP.o _ (List.getElem_mem hlt);omega))
   have HC2:=η (fun(W:World) (hW:Grow w W)=>clone_int W (hH.mono hW.sub) (by have:=HHE.o _ (List.getElem_mem hlt);omega))
   have HI0:=η i0
   replace c0:=GW.o.sub _ _ c0
   replace c1:=GW.o.sub _ _ c1
   replace c2:=GW.o.sub _ _ c2
   replace c3':=GW.o.sub _ _ c3'
   clear hel hP hH i0
   generalize h.opn[L.length]=q at*
   obtain⟨wx,rfl⟩:∃x:World,x=wr:=⟨_,rfl⟩
   obtain⟨wo,hwo⟩:∃y:World,y=wx.alloc (.cells #[.int .i64 q.deed,.slice ap q.parts.length cp,.bool q.dec,.slice ah q.heard.length ch] 147):=⟨_,rfl⟩
   have GO:Hid (Grow wx wo):=η (by rw [hwo];exact(Grow.refl _).alloc _)
   have HSO:Hid (wo.heap.size=wx.heap.size+1):=η (by rw [hwo];simp)
   obtain⟨BO,hBO⟩:∃y,y=wx.heap.size:=⟨_,rfl⟩
   have RO:Hid (wo.heap[BO]? =some (.cells #[.int .i64 q.deed,.slice ap q.parts.length cp,.bool q.dec,.slice ah q.heard.length ch] 147 (0,0))):=η (by rw [hwo,hBO];exact row_new _ _)
   have HBB:Hid (BO=wx.heap.size):=η hBO
   have HB9:Hid (B3<wx.heap.size):=η (γ HRW.o)
   have HS:Hid (∀W,Grow wo W→W.cell? ⟨BO,1,none⟩=some (.slice ap q.parts.length cp)∧W.cell? ⟨BO,3,none⟩=some (.slice ah q.heard.length ch)):=fun W hW=>by
    obtain⟨-,j1,-,j3⟩:=cells4 (row_grow RO.o hW)
    exact⟨j1,j3⟩
   go_upto_region 5 with fail
   rw [←hwo,←hBO]
   clear hwo hBO c0 c1 c2 c3'
   go_cut [36] from 21 (fun s36 wc=>s36=undef∧∃a5 c5 a6 c6,wc.heap[BO]? =some (.cells #[.int .i64 q.deed,.slice a5 q.parts.length c5,.bool q.dec,.slice a6 q.heard.length c6] 147 (0,0))∧OwnC Ty.pt (fun _=>none) wc wo.heap.size 31 (.slice a5 q.parts.length c5) q.parts∧OwnC Ty.int (fun _=>none) wc wo.heap.size 3 (.slice a6 q.heard.length c6) q.heard∧(∀g,(Value.slice a6 q.heard.length c6).ownBlock=some g→(Value.slice a5 q.parts.length c5).ownBlock≠some g)∧Grow wx wc)
   case first=>
    refine bSc (fun w'=>w'.cell? ⟨BO,1,none⟩=some (.slice ap q.parts.length cp)∧w'.cell? ⟨BO,3,none⟩=some (.slice ah q.heard.length ch)) [7,8,9] (by kernel_rfl) ?_
    intro wd GD zD
    have ZD:=η zD
    clear zD
    refine bLc [0,1,3,4] 12 (by kernel_rfl) (fun _ _ _ _ _ h=>h) (HS.o _ GD) ?_
    repeat (refine tNc (v:=?_) rfl (by rfl) ?_ ?_;rotate_left;(· (intro w' hSw;(try dsimp only at hSw);obtain⟨hs0,hs1⟩:=hSw;go_simp<;>with_reducible rfl));try simp only [Act.put,lzA,lzB,lzC,lzD,lzE,lzF])
    refine tEc ?_
    refine bOc 2 (by kernel_rfl) rfl ?_
    intro K HK
    try simp only [lzA,lzB,lzC]
    go_simp
    go_at_call 29
    refine(HC1.o _ (GW.o.trans (GO.o.trans GD))).mono ?_
    rintro e w5 ⟨v5,rfl,ho5,hb5⟩
    obtain⟨a5,c5,rfl⟩:=owns_form ho5
    have HO5:=η ho5
    have G5:=η (Grow.trans GD hb5)
    clear ho5 hb5
    refine HK.o _ _ ⟨.inr (HS.o _ G5.o),?_⟩
    clear HK K
    try simp only [Act.put,lzA,lzB,lzC,lzD,lzE,lzF]
    refine bLc [6] 12 (by kernel_rfl) (fun _ _ _ _ _ h=>h) (HS.o _ G5.o) ?_
    repeat (refine tNc (v:=?_) rfl (by rfl) ?_ ?_;rotate_left;(· (intro w' hSw;(try dsimp only at hSw);obtain⟨hs0,hs1⟩:=hSw;go_simp<;>with_reducible rfl));try simp only [Act.put,lzA,lzB,lzC,lzD,lzE,lzF])
    refine tEc ?_
    refine bOc 5 (by kernel_rfl) rfl ?_
    intro K HK
    try simp only [lzA,lzB,lzC]
    go_simp
    go_at_call 80
    refine(HC2.o _ (GW.o.trans (GO.o.trans G5.o))).mono ?_
    rintro e w6 ⟨v6,rfl,ho6,hb6⟩
    obtain⟨a6,c6,rfl⟩:=owns_form ho6
    have HO6:=η ho6
    have GB6:=η hb6
    have G6:=η (Grow.trans G5.o hb6)
    clear ho6 hb6
    refine HK.o _ _ ⟨.inr (HS.o _ G6.o),?_⟩
    clear HK K
    try simp only [Act.put,lzA,lzB,lzC,lzD,lzE,lzF]
    refine bOc 7 (by kernel_rfl) rfl ?_
    intro K HK
    refine wanted_go rfl ?_
    try simp only [lzA,lzB,lzC]
    refine wp_store_cell (.tmp 27) (.tmp 23) (v:=.slice a5 q.parts.length c5) (new:=#[.int .i64 q.deed,.slice a5 q.parts.length c5,.bool q.dec,.slice ah q.heard.length ch]) rfl rfl (by rfl) (by rfl) (row_grow RO.o G6.o) info_pts1 (by simp) (by rfl) (by rfl) ?_
    intro w7 r7 g7
    have HR7:=η r7
    have HG7:=η g7
    clear r7 g7
    refine HK.o _ _ ⟨.inl (by decide),?_⟩
    clear HK K
    try simp only [Act.put]
    refine bOc 8 (by kernel_rfl) rfl ?_
    intro K HK
    try simp only [lzA,lzB,lzC]
    go_simp
    refine HK.o _ _ ⟨.inl (by decide),?_⟩
    clear HK K
    try simp only [Act.put,lzA,lzB,lzC,lzD,lzE,lzF]
    refine bOc 9 (by kernel_rfl) rfl ?_
    intro K HK
    refine wanted_go rfl ?_
    try simp only [lzA,lzB,lzC]
    refine wp_store_cell (.tmp 28) (.tmp 26) (v:=.slice a6 q.heard.length c6) (new:=#[.int .i64 q.deed,.slice a5 q.parts.length c5,.bool q.dec,.slice a6 q.heard.length c6]) rfl rfl (by rfl) (by rfl) HR7.o info_ints (by simp) (by rfl) (by rfl) ?_
    intro w9 r9 g9
    refine HK.o _ _ ⟨.inl (by decide),?_⟩
    clear HK K
    try simp only [Act.put]
    refine bDc (by kernel_rfl) ?_
    go_wp2
    go_meet
    case rel=>
     have z2:=ZD.o
     have z3:=HSO.o
     have z4:=HBB.o
     have z6:=G6.o.size
     have z9:=G5.o.size
     have GX:Grow wx w9:=((GO.o.trans G6.o).grown HG7.o (fun q hq=>by have:=Option.some.inj hq;omega)).grown g9 (fun q hq=>by have:=Option.some.inj hq;omega)
     have o5:=OwnC.pts (c:=fun _=>none) (owns_grow HO5.o GB6.o) HPO.o
     have o6:=OwnC.ints (c:=fun _=>none) HO6.o HIO.o
     have n5:∀q,(Value.slice a5 _ c5).ownBlock=some q→q≠BO:=fun q hq=>by have:=(o5.lt q hq).1;omega
     have n6:∀q,(Value.slice a6 _ c6).ownBlock=some q→q≠BO:=fun q hq=>by have:=(o6.lt q hq).1;omega
     have k5:=(o5.kept HG7.o (off_of n5)).kept g9 (off_of n5)
     have k6:=(o6.kept HG7.o (off_of n6)).kept g9 (off_of n6)
     exact⟨rfl,a5,c5,a6,c6,r9,k5.base (by omega),k6.base (by omega),fun q hq e=>by have:=(o6.lt q hq).1;have h5:=(OwnC.pts (c:=fun _=>none) HO5.o HPO.o).lt q e;omega,GX⟩
   case rest=>
   obtain⟨rfl,a5,c5,a6,c6,r9,o5,o6,hne,gx⟩:=hcut
   have R9:=η r9
   have O5:=η o5
   have O6:=η o6
   have HNE:=η hne
   have GX:=η gx
   have RB:=η (row_grow HRW.o GX.o)
   have zB:B3<wc.heap.size:=(γ RB.o)
   have zO:BO<wc.heap.size:=(γ R9.o)
   obtain⟨d0,d1,d2,d3⟩:=cells4 RB.o
   obtain⟨e0,e1,e2,e3⟩:=cells4 R9.o
   clear HS r9 o5 o6 hne gx
   go_wp2_with (first|(at_builtin;refine wpList_appc (c:=fr wz (wc.alloc (.cells #[.int .i64 q.deed,.slice a5 q.parts.length c5,.bool q.dec,.slice a6 q.heard.length c6] 147)) ((Value.slice a6 q.heard.length c6).ownBlock::hro B3 (.slice a3 h.log.length c3) (.slice ao L.length co) L)) (base:=wz.heap.size) (l:=L) (m:=[(q,.slice a6 q.heard.length c6)]) ei_opn rfl one_Toph (by decide) rfl (.tmp 30) (.tmp 32) rfl rfl ?own rfl (Src.of_new (T:=Ty.oph) (x:=(q,.slice a6 q.heard.length c6)) (cs:=#[.int .i64 q.deed,.slice a5 q.parts.length c5,.bool q.dec,.slice a6 q.heard.length c6]) ?d0 _ _ ?d1) ?d2 ?d3 ?_))
   case own=>exact HRR.o.opn.mono (HRR.o.ahead (W:=wc.alloc (.cells #[.int .i64 q.deed,.slice a5 q.parts.length c5,.bool q.dec,.slice a6 q.heard.length c6] 147)) (r:=(Value.slice a6 q.heard.length c6).ownBlock) (GX.o.alloc _) (fun p hp=>by have:=O6.o.lt p hp;have:=HSO.o;simp;omega)).2|>.grow (GX.o.alloc _)
   case d0=>exact⟨_,rfl,HI0.o,(O5.o.grow ((Grow.refl _).alloc _)).slb (by decide) (fun a v e=>by cases e) (fun a ha=>fr_new (by have:=O5.o.lt _ ha;have:=HG.o.size;have:=HSO.o;omega) (fun hm=>by
     rcases List.mem_cons.1 hm with e|hm
     ·exact HNE.o _ e.symm ha
     ·have h8:=(HRR.o.ok.lt _ hm).2
      have:=(O5.o.lt _ ha).1;have:=HSO.o;omega)),rfl⟩
   case d1=>first|rfl|simp
   case d2=>simp;omega
   case d3=>have:=HG.o.size;have:=GX.o.size;simp;omega
   intro a9 c9 w9 ho9 hg9 hb9
   have HRN:=η (HRR.o.snoc (GX.o.alloc (.cells #[.int .i64 q.deed,.slice a5 q.parts.length c5,.bool q.dec,.slice a6 q.heard.length c6] 147)) ((O6.o.base (by have:=HSO.o;omega)).grow ((Grow.refl _).alloc _)) hg9 (hb9.imp_right fun⟨g,e,hge⟩=>⟨g,e,by simpa using hge⟩) ho9)
   have RB9:=η (row_by (row_grow RB.o ((Grow.refl _).alloc (.cells #[.int .i64 q.deed,.slice a5 q.parts.length c5,.bool q.dec,.slice a6 q.heard.length c6] 147))) hg9 (fun e=>by
    have:=HRR.o.ok.off (i:=0) (j:=2) rfl rfl (by decide)
    rcases this with e2|e2
    ·cases e2
    ·exact e2 e))
   have HN9:Hid (∀q,(Value.slice a9 (L.length+1) c9).ownBlock=some q→q≠B3):=η (fun p hp e=>by
    have:=HRN.o.ok.off (i:=0) (j:=2) rfl rfl (by decide)
    rcases this with e2|e2
    ·cases e2
    ·exact e2 (by rw [←e];exact hp.symm))
   clear ho9 hg9 hb9 d0 d1 d2 d3 e0 e1 e2 e3 zB zO
   go_wp2_with (first|(refine wpList_store_cell rfl (.tmp 34) (.tmp 33) (v:=.slice a9 (L.length+1) c9) (new:=#[.slice a3 h.log.length c3,.int .i64 h.boot,.int .i64 h.next,.slice a9 (L.length+1) c9]) rfl rfl (by rfl) (by rfl) RB9.o info_opns (by simp) (by rfl) (by rfl) ?_))
   intro wn rn gn
   have HRZ:=η (HRN.o.box gn)
   have RZ:=η rn
   clear rn gn
   go_wp2
   go_roundw
   case rel=>
    have hl:(L++ [((q:Opn),Value.slice a6 q.heard.length c6)]).length=L.length+1:=by simp
    refine⟨a9,c9,L++ [(q,.slice a6 q.heard.length c6)],by rw [hl];omega,by rw [hl];go_num,?_,by rw [hl];exact RZ.o,by rw [hl];exact HRZ.o⟩
    rw [hl,HTK.o,List.map_append,HLM.o];rfl
   case measure=>simp [intOf];omega
  ·have R2W:=η (row_grow R2.o HG.o)
   obtain⟨d0,d1,d2,d3⟩:=cells4 HRW.o
   have zB:B3<wr.heap.size:=(γ HRW.o)
   have zR:w.heap.size+1<wr.heap.size:=(γ R2W.o)
   clear hel
   go_wp2_with (first|(refine wpList_store_row rfl (.tmp 2) (.tmp 36) rfl rfl rfl R2W.o info_hd rfl rfl ?_))
   intro wf rf gf
   obtain⟨p0,p1,p2,p3⟩:=cells4 rf
   go_wp2
   refine bodyPost_ret (v:=.agg #[.slice a3 h.log.length c3,.int .i64 h.boot,.int .i64 h.next,.slice ao L.length co]) (by simp [results,Tryz.results44,go_sem,p0,p1,p2,p3]) rfl ?_
   have hlm:=HLM.o
   rw [List.take_of_length_le (by omega)] at hlm
   exact⟨_,_,B3,L,rfl,hlm,HRR.o.past G1.o gf (by have:=HZ.o;omega)⟩
structure PtsR (l:List Pt):Prop where
 ne:l≠ []
 lt:∀p∈l,0≤p.h∧p.h<3
 len:l.length≤4
set_option maxRecDepth 100000 in
set_option maxHeartbeats 2000000 in
theorem head_aborts {d:Int} {v:Value} {l:List Pt} (w:World) (hv:Pts w.cell? v l) (hd:I64 d) (hr:PtsR l):
  Calls Tryz.prog 76 #[.int .i64 d,v] w fun e w'=>∃v',e=.returned v'∧OwnC Ty.ms (fun _=>none) w' w.heap.size 95 v' (abortsE d l)∧Grow w w':=by
 have HHO:=η (part_houses w hv (by have:=hr.len;omega) hr.ne hr.lt)
 obtain⟨ap,cp,rfl,-⟩:=id hv
 have HD:=η hd
 clear hv hd hr
 go_enter Tryz.func76,Tryz.ntmps76
 go_wp2_with fail
 refine HHO.o.mono ?_
 rintro e w1 ⟨v1,rfl,ho1,hb1⟩
 obtain⟨a1,c1,rfl⟩:=owns_form ho1
 have hix:=ints_of ho1 (houses_ok l)
 have G1:=η hb1
 have HL:=η (houses_short l)
 have HAE:Hid ((housesE l).map (fun n=>(⟨5,d,n,[]⟩:Ms))=abortsE d l):=η rfl
 clear ho1 hb1
 generalize housesE l=hs at*
 obtain⟨a1',c1',he1,-,-,-,hel⟩:=hix
 obtain⟨rfl,rfl⟩:a1=a1'∧c1=c1':=by simpa using he1
 clear he1
 go_wp2
 go_loopw [5,11] (fun s5 i wr=>∃k:Nat,k≤hs.length∧i=.int .i64 k∧Grow w1 wr∧OwnC Ty.ms (fun _=>none) wr w1.heap.size 95 s5 ((hs.take k).map (fun n=>(⟨5,d,n,[]⟩:Ms)))) (fun _ i _=>hs.length - (intOf i).toNat)
 case atStart=>exact⟨0,by omega,rfl,Grow.refl _,OwnC.nil _ _ _ _ _⟩
 case round=>
  obtain⟨k,hk',rfl,hb,hown⟩:=hrel
  have hl3:=HL.o
  by_cases hlt:k<hs.length
  ·have HTK:=η (map_next (fun n=>(⟨5,d,n,[]⟩:Ms)) hlt)
   have HLK:=η (show((hs.take k).map (fun n=>(⟨5,d,n,[]⟩:Ms))).length≤3 by rw [List.length_map,List.length_take];omega)
   obtain⟨bx,ox,rfl,x0,hni⟩:=intAt hel k hlt
   replace x0:=hb.sub _ _ x0
   have HNI:=η hni
   have HOWN:=η hown
   have HB:=η hb
   obtain⟨av,cv,rfl⟩:=hown.form
   clear hown hb hel hni
   generalize hs[k]=n at*
   generalize (hs.take k).map (fun n=>(⟨5,d,n,[]⟩:Ms))=ms at*
   go_wp2_with (first|(at_builtin;refine wpList_appc (c:=fun _=>none) (base:=w1.heap.size) (l:=ms) (m:=[⟨5,d,n,[]⟩]) ei_ms rfl one_Tms (by decide) rfl (.tmp 15) (.tmp 19) rfl rfl ?own rfl (Src.of_new (T:=Ty.ms) (x:=⟨5,d,n,[]⟩) (cs:=#[.int .i64 5,.int .i64 d,.int .i64 n,.slice none 0 0]) ⟨_,rfl,(show I64 5 from by unfold I64;decide),HD.o,HNI.o,Sl.nil _ _⟩ _ _ ?d1) ?d2 ?d3 ?_))
   case own=>exact HOWN.o.grow ((Grow.refl _).alloc _)
   case d1=>first|rfl|simp
   case d2=>have:=HLK.o;simp;omega
   case d3=>have:=HB.o.size;simp;omega
   intro a9 c9 w9 ho9 hg9 hb9
   have HG9:Hid (Grow w1 w9):=η (grow_by (w0:=w1) (HB.o.alloc _) hg9 (fun q hq=>(HOWN.o.lt q hq).1))
   have HO9:=η ho9
   clear ho9 hg9 hb9
   go_wp2
   go_roundw
   case rel=>exact⟨k+1,by omega,by go_num,HG9.o,by rw [HTK.o];exact HO9.o⟩
   case measure=>simp [intOf];omega
  ·have HOWN:=η hown
   have HB:=η hb
   clear hown hb hel
   go_wp2
   go_ret
   have h9:=HOWN.o
   rw [List.take_of_length_le (by omega),HAE.o] at h9
   exact⟨_,rfl,h9.base G1.o.size,G1.o.trans HB.o⟩
structure OpnAt (w:World) (b p:Nat) (o:Opn) (ap:Option Addr) (cp:Nat) (ah:Option Addr) (ch:Nat):Prop where
 c0:w.cell? ⟨b,p,none⟩=some (.int .i64 o.deed)
 c1:w.cell? ⟨b,p+1,none⟩=some (.slice ap o.parts.length cp)
 c2:w.cell? ⟨b,p+2,none⟩=some (.bool o.dec)
 c3:w.cell? ⟨b,p+3,none⟩=some (.slice ah o.heard.length ch)
 i0:I64 o.deed
 parts:Sl Ty.pt w.cell? (.slice ap o.parts.length cp) o.parts
 heard:Sl Ty.int w.cell? (.slice ah o.heard.length ch) o.heard
theorem OpnAt.grow {w W:World} {b p:Nat} {o:Opn} {ap:Option Addr} {cp:Nat} {ah:Option Addr} {ch:Nat} (h:OpnAt w b p o ap cp ah ch) (hg:Grow w W):OpnAt W b p o ap cp ah ch:=
 ⟨hg.sub _ _ h.c0,hg.sub _ _ h.c1,hg.sub _ _ h.c2,hg.sub _ _ h.c3,h.i0,h.parts.mono hg.sub,h.heard.mono hg.sub⟩
set_option maxRecDepth 100000 in
set_option maxHeartbeats 2000000 in
theorem head_asks {b p:Nat} {o:Opn} {ap:Option Addr} {cp:Nat} {ah:Option Addr} {ch:Nat} (w:World) (ho:OpnAt w b p o ap cp ah ch) (hr:PtsR o.parts):
  Calls Tryz.prog 98 #[.pointer (some ⟨b,p,none⟩)] w fun e w'=>∃v',e=.returned v'∧OwnC Ty.ms (fr w w' [v'.ownBlock]) w' w.heap.size 95 v' (asksE o)∧Grow w w':=by
 have HHO:=η (part_houses w ho.parts (by have:=hr.len;omega) hr.ne hr.lt)
 have HOF:=η (fun(n:Int) (W:World) (hW:Grow w W)=>part_of (n:=n) W (ho.parts.mono hW.sub) (by have:=hr.len;omega))
 have HIN:=η (fun(n:Int) (W:World) (hW:Grow w W)=>contains_int (n:=n) W (ho.heard.mono hW.sub))
 have HAT:=η ho
 have HPK:=η (Pts.ok ho.parts)
 obtain⟨c0,c1,c2,c3,-,-,-⟩:=ho
 clear hr
 go_enter Tryz.func98,Tryz.ntmps98
 go_wp2_with fail
 refine HHO.o.mono ?_
 rintro e w1 ⟨v1,rfl,ho1,hb1⟩
 obtain⟨a1,c1',rfl⟩:=owns_form ho1
 have hix:=ints_of ho1 (houses_ok o.parts)
 have G1:=η hb1
 have HL:=η (houses_short o.parts)
 have HAE:Hid (((housesE o.parts).filter (askQ o)).map (commitM o)=asksE o):=η rfl
 clear ho1 hb1 c0 c1 c2 c3
 generalize housesE o.parts=hs at*
 obtain⟨a1',d1',he1,-,-,-,hel⟩:=hix
 obtain⟨rfl,rfl⟩:a1=a1'∧c1'=d1':=by simpa using he1
 clear he1
 go_wp2
 go_loopw [3,13] (fun s3 i wr=>∃k:Nat,k≤hs.length∧i=.int .i64 k∧Grow w1 wr∧OwnC Ty.ms (fr w1 wr [s3.ownBlock]) wr w1.heap.size 95 s3 (((hs.take k).filter (askQ o)).map (commitM o))) (fun _ i _=>hs.length - (intOf i).toNat)
 case atStart=>exact⟨0,by omega,rfl,Grow.refl _,OwnC.nil _ _ _ _ _⟩
 case round=>
  obtain⟨k,hk',rfl,hb,hown⟩:=hrel
  have hl3:=HL.o
  by_cases hlt:k<hs.length
  ·have HTK:=η (fmap_next (askQ o) (commitM o) hlt)
   have HLK:=η (show(((hs.take k).filter (askQ o)).map (commitM o)).length≤3 by rw [List.length_map];exact Nat.le_trans (List.length_filter_le _ _) (by simp;omega))
   obtain⟨bx,ox,rfl,x0,hni⟩:=intAt hel k hlt
   replace x0:=hb.sub _ _ x0
   have HNI:=η hni
   have HOWN:=η hown
   have HB:=η hb
   have GW:=η (G1.o.trans hb)
   obtain⟨av,cv,rfl⟩:=hown.form
   clear hown hb hel hni
   generalize hs[k]=n at*
   generalize ((hs.take k).filter (askQ o)).map (commitM o)=ms at*
   obtain⟨wx,rfl⟩:∃x:World,x=wr:=⟨_,rfl⟩
   obtain⟨c0,c1,c2,c3,i0,-,-⟩:=HAT.o.grow GW.o
   have HI0:=η i0
   have zb:b<wx.heap.size:=World.block_lt_of_cell? wx _ c0
   clear i0
   by_cases hd:o.dec=true
   ·have HCM:Hid (commitM o n=⟨4,o.deed,n,[]⟩):=η (by unfold commitM;rw [if_pos hd])
    rw [hd] at c2
    have HS:Hid (Ty.ms.R (fun _=>none) [.int .i64 4,.int .i64 o.deed,.int .i64 n,.slice none 0 0] ⟨4,o.deed,n,[]⟩):=η ⟨_,rfl,(show I64 4 from by unfold I64;decide),HI0.o,HNI.o,Sl.nil _ _⟩
    have HDE:=η hd
    clear hd
    go_wp2_with fail
    refine(HIN.o n _ (GW.o.alloc _)).mono ?_
    rintro e w2 ⟨rfl,hb2⟩
    have G2:=η (((Grow.refl wx).alloc _).trans hb2)
    have R5:=η (row_grow (row_new wx (.cells #[.int .i64 4,.int .i64 o.deed,.int .i64 n,.slice none 0 0] 95)) hb2)
    clear hb2 c0 c1 c2 c3 x0
    obtain⟨r0,r1,r2,r3⟩:=cells4 R5.o
    have z1:wx.heap.size<w2.heap.size:=(γ R5.o)
    by_cases hq:n∈o.heard
    ·have hqb:decide (n∈o.heard)=true:=decide_eq_true hq
     have HT:=η HTK.o
     rw [if_neg (by show¬askQ o n=true;simp [askQ,hq])] at HT
     rw [hqb]
     clear hq
     go_wp2
     go_roundw
     case rel=>exact⟨k+1,by omega,by go_num,HB.o.trans G2.o,by rw [HT.o];exact(HOWN.o.mono (fr_grow G2.o)).grow G2.o⟩
     case measure=>simp [intOf];omega
    ·have hqb:decide (n∈o.heard)=false:=decide_eq_false hq
     have HT:=η HTK.o
     rw [if_pos (by show askQ o n=true;simp [askQ,hq]),HCM.o] at HT
     rw [hqb]
     clear hq
     go_wp2_with (first|(at_builtin;refine wpList_appc (c:=fr w1 w2 [(Value.slice av ms.length cv).ownBlock]) (base:=w1.heap.size) (l:=ms) (m:=[⟨4,o.deed,n,[]⟩]) ei_ms rfl one_Tms (by decide) rfl (.tmp 43) (.tmp 45) rfl rfl ?own rfl (Src.of_new (T:=Ty.ms) (x:=⟨4,o.deed,n,[]⟩) (cs:=#[.int .i64 4,.int .i64 o.deed,.int .i64 n,.slice none 0 0]) (Ty.ms.mono (fun _ _ e=>by cases e) HS.o) _ _ ?d1) ?d2 ?d3 ?_))
     case own=>exact((HOWN.o.mono (fr_grow G2.o)).grow G2.o).grow ((Grow.refl _).alloc _)
     case d1=>first|rfl|simp
     case d2=>have:=HLK.o;simp;omega
     case d3=>have:=HB.o.size;have:=G2.o.size;simp;omega
     intro a9 c9 w9 ho9 hg9 hb9
     have HG9:Hid (Grow w1 w9):=η (grow_by (w0:=w1) ((HB.o.trans G2.o).alloc _) hg9 (fun q hq=>(HOWN.o.lt q hq).1))
     have HO9:=η ((ho9.mono (fr_grow ((Grow.refl w2).alloc (.cells #[.int .i64 4,.int .i64 o.deed,.int .i64 n,.slice none 0 0] 95)))).mono (fr_app hg9 (hb9.imp_right fun⟨g,e,hge⟩=>⟨g,e,by simpa using hge⟩)))
     clear ho9 hg9 hb9
     go_wp2
     go_roundw
     case rel=>exact⟨k+1,by omega,by go_num,HG9.o,by rw [HT.o];exact HO9.o⟩
     case measure=>simp [intOf];omega
   ·have hd':o.dec=false:=by simpa using hd
    have HCM:Hid (commitM o n=⟨1,o.deed,n,ofL o.parts n⟩):=η (by unfold commitM;rw [if_neg hd])
    rw [hd'] at c2
    have HDE:=η hd'
    clear hd hd'
    go_wp2_with fail
    refine(HOF.o n _ (GW.o.alloc _)).mono ?_
    rintro e w5 ⟨v5,rfl,ho5,hb5⟩
    obtain⟨a5,c5,rfl⟩:=ho5.form
    have HO5:=η ho5
    have G5:=η (((Grow.refl wx).alloc _).trans hb5)
    have R5:=η (row_grow (row_new wx (.cells #[.int .i64 4,.int .i64 o.deed,.int .i64 n,.slice none 0 0] 95)) hb5)
    have HLT5:Hid (∀q,(Value.slice a5 (ofL o.parts n).length c5).ownBlock=some q→wx.heap.size+1≤q):=η (fun q hq=>by have:=(ho5.lt q hq).1;simpa using this)
    have HAT5:=η (HAT.o.grow (GW.o.trans G5.o))
    clear ho5 hb5 c0 c1 c2 c3 x0
    generalize ofL o.parts n=pl at*
    obtain⟨r0,r1,r2,r3⟩:=cells4 R5.o
    obtain⟨c0,c1,c2,c3,-,-,-⟩:=HAT5.o
    have zb5:b<w5.heap.size:=World.block_lt_of_cell? w5 _ c0
    have HNE:Hid (b≠wx.heap.size):=η (by omega)
    have z1:wx.heap.size<w5.heap.size:=(γ R5.o)
    go_wp2_with (first|(refine wpList_store_cell rfl (.tmp 34) _ (v:=.int .i64 1) (new:=#[.int .i64 1,.int .i64 o.deed,.int .i64 n,.slice none 0 0]) rfl rfl (by rfl) (by rfl) R5.o info_int1 (by simp) (by rfl) (by rfl) ?_))
    intro w6 r6 g6
    have R6:=η r6
    have HG6:=η g6
    clear r0 r1 r2 r3 c0 c1 c2 c3 z1 zb zb5 r6 g6
    obtain⟨r0,r1,r2,r3⟩:=cells4 R6.o
    have z1:wx.heap.size<w6.heap.size:=(γ R6.o)
    go_wp2_with (first|(refine wpList_store_cell rfl (.tmp 35) (.tmp 33) (v:=.slice a5 pl.length c5) (new:=#[.int .i64 1,.int .i64 o.deed,.int .i64 n,.slice a5 pl.length c5]) rfl rfl (by rfl) (by rfl) R6.o info_pts1 (by simp) (by rfl) (by rfl) ?_))
    intro w7 r7 g7
    have R7:=η r7
    have G7:Hid (Grow wx w7):=η ((G5.o.grown HG6.o (fun q hq=>by have:=Option.some.inj hq;omega)).grown g7 (fun q hq=>by have:=Option.some.inj hq;omega))
    have HO7:=η ((HO5.o.kept HG6.o (off_of (fun q hq=>by have:=HLT5.o q hq;omega))).kept g7 (off_of (fun q hq=>by have:=HLT5.o q hq;omega)))
    clear r0 r1 r2 r3 z1 r7 g7
    obtain⟨r0,r1,r2,r3⟩:=cells4 R7.o
    obtain⟨c0,c1,c2,c3,-,-,hh7⟩:=HAT.o.grow (GW.o.trans G7.o)
    have z1:wx.heap.size<w7.heap.size:=(γ R7.o)
    have zb7:b<w7.heap.size:=World.block_lt_of_cell? w7 _ c0
    clear hh7
    go_wp2_with fail
    refine(HIN.o n _ (GW.o.trans G7.o)).mono ?_
    rintro e w2 ⟨rfl,hb2⟩
    have G2:=η (G7.o.trans hb2)
    have R2:=η (row_grow R7.o hb2)
    have HO2:=η (HO7.o.grow hb2)
    clear hb2 c0 c1 c2 c3 r0 r1 r2 r3 z1 zb7
    obtain⟨r0,r1,r2,r3⟩:=cells4 R2.o
    have z1:wx.heap.size<w2.heap.size:=(γ R2.o)
    by_cases hq:n∈o.heard
    ·have hqb:decide (n∈o.heard)=true:=decide_eq_true hq
     have HT:=η HTK.o
     rw [if_neg (by show¬askQ o n=true;simp [askQ,hq])] at HT
     rw [hqb]
     clear hq
     go_wp2
     go_roundw
     case rel=>exact⟨k+1,by omega,by go_num,HB.o.trans G2.o,by rw [HT.o];exact(HOWN.o.mono (fr_grow G2.o)).grow G2.o⟩
     case measure=>simp [intOf];omega
    ·have hqb:decide (n∈o.heard)=false:=decide_eq_false hq
     have HT:=η HTK.o
     rw [if_pos (by show askQ o n=true;simp [askQ,hq]),HCM.o] at HT
     rw [hqb]
     clear hq
     go_wp2_with (first|(at_builtin;refine wpList_appc (c:=fr w1 (w2.alloc (.cells #[.int .i64 1,.int .i64 o.deed,.int .i64 n,.slice a5 pl.length c5] 95)) [(Value.slice av ms.length cv).ownBlock]) (base:=w1.heap.size) (l:=ms) (m:=[⟨1,o.deed,n,pl⟩]) ei_ms rfl one_Tms (by decide) rfl (.tmp 43) (.tmp 45) rfl rfl ?own rfl (Src.of_new (T:=Ty.ms) (x:=⟨1,o.deed,n,pl⟩) (cs:=#[.int .i64 1,.int .i64 o.deed,.int .i64 n,.slice a5 pl.length c5]) ?d0 _ _ ?d1) ?d2 ?d3 ?_))
     case own=>exact((HOWN.o.mono (fr_grow (G2.o.alloc _))).grow (G2.o.alloc _))
     case d0=>exact⟨_,rfl,(show I64 1 from by unfold I64;decide),HI0.o,HNI.o,(HO2.o.grow ((Grow.refl _).alloc _)).slb (by decide) (fun a v e=>by cases e) fun a ha=>fr_new (by have:=HLT5.o _ ha;have:=HB.o.size;omega) (by
      simp only [List.mem_singleton]
      intro e
      have:=(HOWN.o.lt _ e.symm).2
      have:=HLT5.o _ ha;omega)⟩
     case d1=>first|rfl|simp
     case d2=>have:=HLK.o;simp;omega
     case d3=>have:=HB.o.size;have:=G2.o.size;simp;omega
     intro a9 c9 w9 ho9 hg9 hb9
     have HG9:Hid (Grow w1 w9):=η (grow_by (w0:=w1) ((HB.o.trans G2.o).alloc _) hg9 (fun q hq=>(HOWN.o.lt q hq).1))
     have HO9:=η (ho9.mono (fr_app hg9 (hb9.imp_right fun⟨g,e,hge⟩=>⟨g,e,by simpa using hge⟩)))
     clear ho9 hg9 hb9
     go_wp2
     go_roundw
     case rel=>exact⟨k+1,by omega,by go_num,HG9.o,by rw [HT.o];exact HO9.o⟩
     case measure=>simp [intOf];omega
  ·have HOWN:=η hown
   have HB:=η hb
   clear hown hb hel
   go_wp2
   go_ret
   have h9:=HOWN.o
   rw [List.take_of_length_le (by omega),HAE.o] at h9
   exact⟨_,rfl,(h9.mono (fr_low G1.o.size)).base G1.o.size,G1.o.trans HB.o⟩
theorem ei_hs:EI Tryz.prog 36 68 7 104:=EI.mk' (z:=.agg #[.slice none 0 0,.int .i64 0,.int .i64 0,.int .i64 0,.int .i64 0,.slice none 0 0,.slice none 0 0]) (by kernel_rfl) (by kernel_rfl) rfl (by decide) rfl
theorem info_wd:(Tryz.prog.info? 39).map (·.size)=some 6:=by kernel_rfl
theorem info_hss:(Tryz.prog.info? 36).map (·.size)=some 1:=by kernel_rfl
theorem one_boot {c:CM} (w:World) {b:Nat} (hb:b≤w.heap.size):OwnC Ty.rc c (w.alloc (.cells #[.int .i64 4,.int .i64 0,.slice none 0 0] 81)) b 81 (.slice (some ⟨w.heap.size,0,none⟩) 1 1) [⟨4,0,[]⟩]:=
 ⟨[[.int .i64 4,.int .i64 0,.slice none 0 0]],World.ownsRow_lit w #[.int .i64 4,.int .i64 0,.slice none 0 0] 1 hb (by decide) rfl,rfl,fun i cs x a b=>by
  match i with
  |0=>
   simp only [List.getElem?_cons_zero,Option.some.injEq] at a b
   subst a;subst b
   exact⟨_,rfl,(show I64 4 by unfold I64;decide),zero_ok,Sl.nil _ _⟩
  |i+1=>simp at a⟩
theorem ovn_set {w W W2 w':World} {A:Nat} (hg:Grow w W) (hA:A<W.heap.size) (h2:W2.grownBy w' (some A)) (_:Grow W W2):Sub (ov (fun _=>none) W W2) (ov (fun _=>none) w w'):=fun a v e=>by
 have hs:=hg.size
 unfold ov at e
 split at e
 ·cases e
 ·rw [ov_new (by omega),by_cell h2 (World.block_lt_of_cell? W2 a e) (by omega)];exact e
set_option maxRecDepth 100000 in
set_option maxHeartbeats 2000000 in
theorem whead_new (w:World):Calls Tryz.prog 34 #[] w fun e w'=>∃v',e=.returned v'∧Of Ty.hd (ov (fun _=>none) w w') v' (headR [⟨4,0,[]⟩])∧Grow w w':=by
 obtain⟨wz,hwz⟩:∃y:World,y=w.alloc (.cells #[.slice none 0 0,.int .i64 0,.int .i64 0,.slice none 0 0] 35):=⟨_,rfl⟩
 have R1:Hid (wz.heap[w.heap.size]? =some (.cells #[.slice none 0 0,.int .i64 0,.int .i64 0,.slice none 0 0] 35 (0,0))):=η (by rw [hwz];exact row_new _ _)
 have G1:Hid (Grow w wz):=η (by rw [hwz];exact(Grow.refl w).alloc _)
 have HLH:=η (wlog_head (wz.alloc (.cells #[.int .i64 4,.int .i64 0,.slice none 0 0] 81)) (l:=[⟨4,0,[]⟩]) ((one_boot (c:=fun _=>none) wz (Nat.le_refl _)).slc (d:=(wz.alloc (.cells #[.int .i64 4,.int .i64 0,.slice none 0 0] 81)).cell?) (by decide) (fun _ _ e=>by cases e) fun _ _=>rfl) (by decide) (by simp))
 go_enter Tryz.func34,Tryz.ntmps34
 go_upto_region 1 with fail
 rw [←hwz]
 clear hwz
 go_wp2_with fail
 refine HLH.o.mono ?_
 rintro e w1 ⟨v1,rfl,hx,hb1⟩
 obtain⟨al,cl,ar,cr,rfl⟩:=hx.hd_form
 have R2:=η (row_grow (row_grow R1.o ((Grow.refl _).alloc _)) hb1)
 have HX:=η hx
 have GB:=η hb1
 clear hx hb1
 go_wp2_with (first|(refine wpList_store_row rfl (.tmp 0) (.tmp 3) rfl rfl rfl R2.o info_hd rfl rfl ?_))
 intro w7 r7 g7
 obtain⟨p0,p1,p2,p3⟩:=cells4 r7
 go_wp2
 refine bodyPost_ret (v:=.agg #[.slice al (headR [⟨4,0,[]⟩]).log.length cl,.int .i64 (headR [⟨4,0,[]⟩]).boot,.int .i64 (headR [⟨4,0,[]⟩]).next,.slice ar (headR [⟨4,0,[]⟩]).opn.length cr]) (by simp [results,Tryz.results34,go_sem,p0,p1,p2,p3]) rfl ?_
 have z1:=(γ R1.o)
 exact⟨_,rfl,HX.o.mono (ovn_set (G1.o.alloc _) (by simp;omega) g7 GB.o),((G1.o.alloc _).trans GB.o).grown g7 (fun q hq=>by have:=Option.some.inj hq;omega)⟩
set_option maxRecDepth 100000 in
set_option maxHeartbeats 2000000 in
theorem whead_tick {v:Value} {h:Hd} (w:World) (hv:Of Ty.hd w.cell? v h) (hk:HdOk h) (hr:∀o∈h.opn,PtsR o.parts):
  Calls Tryz.prog 74 #[v] w fun e w'=>∃v',e=.returned v'∧OwnC Ty.ms (fr w w' [v'.ownBlock]) w' w.heap.size 95 v' (tickE h)∧Grow w w':=by
 obtain⟨al,cl,ar,cr,rfl⟩:=hv.hd_form
 obtain⟨ar',cr',he,h1,h2,-,hel⟩:=(Of.hd_log hv).2
 obtain⟨rfl,rfl⟩:ar=ar'∧cr=cr':=by simpa using he
 unfold maxLen at h2
 have HPR:=η hr
 have h12:=hk.opn
 clear hk he hv hr
 obtain⟨wz,hwz⟩:∃y:World,y=w.alloc (.cells #[.slice al h.log.length cl,.int .i64 h.boot,.int .i64 h.next,.slice ar h.opn.length cr] 35):=⟨_,rfl⟩
 have R1:Hid (wz.heap[w.heap.size]? =some (.cells #[.slice al h.log.length cl,.int .i64 h.boot,.int .i64 h.next,.slice ar h.opn.length cr] 35 (0,0))):=η (by rw [hwz];exact row_new _ _)
 have G1:Hid (Grow w wz):=η (by rw [hwz];exact(Grow.refl w).alloc _)
 go_enter Tryz.func74,Tryz.ntmps74
 go_upto_region 2 with fail
 rw [←hwz]
 clear hwz
 obtain⟨c0,c1,c2,c3⟩:=cells4 R1.o
 have z1:w.heap.size<wz.heap.size:=(γ R1.o)
 go_wp2
 clear c0 c1 c2 c3 z1
 go_loopw [3,8] (fun s3 i wr=>∃k:Nat,k≤h.opn.length∧i=.int .i64 k∧Grow wz wr∧OwnC Ty.ms (fr wz wr [s3.ownBlock]) wr wz.heap.size 95 s3 ((h.opn.take k).flatMap asksE)) (fun _ i _=>h.opn.length - (intOf i).toNat)
 case atStart=>exact⟨0,by omega,rfl,Grow.refl _,OwnC.nil _ _ _ _ _⟩
 case round=>
  obtain⟨k,hk',rfl,hb,hown⟩:=hrel
  by_cases hlt:k<h.opn.length
  ·obtain⟨b,o,vp,vh,rfl,c0,c1,c2,c3,i0,hP,hH⟩:=Opns.at_ hel k hlt
   obtain⟨ap,cp,rfl,-⟩:=id hP
   obtain⟨ah,ch,rfl,-⟩:=id hH
   have GW:=η (G1.o.trans hb)
   have HAS:=η (fun(W:World) (hW:Grow w W)=>head_asks (o:=h.opn[k]) W ⟨hW.sub _ _ c0,hW.sub _ _ c1,hW.sub _ _ c2,hW.sub _ _ c3,i0,hP.mono hW.sub,hH.mono hW.sub⟩ (HPR.o _ (List.getElem_mem hlt)))
   have HTK:=η (flat_next asksE hlt)
   have HLK:=η (show((h.opn.take k).flatMap asksE).length≤36 by have:=flat_short asks_short (h.opn.take k);rw [List.length_take] at this;omega)
   have HAL:=η (asks_short h.opn[k])
   have HOWN:=η hown
   have HB:=η hb
   obtain⟨av,cv,rfl⟩:=hown.form
   have R2:=η (row_grow R1.o hb)
   clear hel hP hH hown hb i0 c0 c1 c2 c3
   generalize h.opn[k]=q at*
   generalize (h.opn.take k).flatMap asksE=ms at*
   obtain⟨d0,d1,d2,d3⟩:=cells4 R2.o
   have z1:w.heap.size<wr.heap.size:=(γ R2.o)
   go_wp2_with fail
   refine(HAS.o _ GW.o).mono ?_
   rintro e w4 ⟨v4,rfl,ho4,hb4⟩
   obtain⟨a4,c4,rfl⟩:=ho4.form
   have G4:=η hb4
   have HSR:=η (src_new (w:=wz) (row:=(Value.slice av ms.length cv).ownBlock) (by decide) HB.o (fun q hq=>(HOWN.o.lt q hq).2) ho4)
   have HO4:=η ((HOWN.o.mono (fr_grow G4.o)).grow G4.o)
   clear ho4 hb4 d0 d1 d2 d3 z1
   generalize asksE q=aq at*
   go_wp2_with (first|(at_builtin;refine wpList_appc (c:=fr wz w4 [(Value.slice av ms.length cv).ownBlock]) (base:=wz.heap.size) (l:=ms) (m:=aq) ei_ms rfl one_Tms (by decide) rfl (.tmp 11) (.tmp 16) rfl rfl HO4.o rfl HSR.o ?d2 ?d3 ?_))
   case d2=>have:=HLK.o;have:=HAL.o;omega
   case d3=>have:=HB.o.size;have:=G4.o.size;omega
   intro a9 c9 w9 ho9 hg9 hb9
   have HG9:Hid (Grow wz w9):=η (grow_by (w0:=wz) (HB.o.trans G4.o) hg9 (fun q hq=>(HOWN.o.lt q hq).1))
   have HO9:=η (ho9.mono (fr_app hg9 (hb9.imp_right fun⟨g,e,hge⟩=>⟨g,e,by simpa using hge⟩)))
   clear ho9 hg9 hb9
   go_wp2
   go_roundw
   case rel=>exact⟨k+1,by omega,by go_num,HG9.o,by rw [HTK.o];exact HO9.o⟩
   case measure=>simp [intOf];omega
  ·have HOWN:=η hown
   have HB:=η hb
   clear hel hown hb
   go_wp2
   go_ret
   have h9:=HOWN.o
   rw [List.take_of_length_le (by omega)] at h9
   exact⟨_,rfl,(h9.mono (fr_low G1.o.size)).base G1.o.size,G1.o.trans HB.o⟩
theorem HR.head {w W:World} {B:Nat} {vl vo:Value} {h:Hd} {L:List OpH} (b:HR w W B vl vo h.log L) (hl:L.map (·.1)=h.opn) (h1:I64 h.boot) (h2:I64 h.next):Of Ty.hd (ov (fun _=>none) w W) (.agg #[vl,.int .i64 h.boot,.int .i64 h.next,vo]) h:=by
 have e:=b.of h1 h2
 rw [hl] at e
 exact e
theorem HR.form {w W:World} {B:Nat} {vl vo:Value} {lg:List Rc} {L:List OpH} (b:HR w W B vl vo lg L):∃al cl ao co,vl=.slice al lg.length cl∧vo=.slice ao L.length co:=by
 obtain⟨al,cl,rfl⟩:=b.log.form
 obtain⟨ao,co,rfl⟩:=b.opn.form
 exact⟨_,_,_,_,rfl,rfl⟩
set_option maxRecDepth 100000 in
set_option maxHeartbeats 2000000 in
theorem whead_fall {v:Value} {h:Hd} (w:World) (hv:Of Ty.hd w.cell? v h) (hk:HdOk h) (hp:∀r∈h.log,r.parts.length*24≤140737488355328):
  Calls Tryz.prog 73 #[v] w fun e w'=>∃v',e=.returned (.tuple #[v',.int .i64 (fallE h)])∧Of Ty.hd (ov (fun _=>none) w w') v' (fallH h)∧Grow w w':=by
 obtain⟨al,cl,ar,cr,rfl⟩:=hv.hd_form
 have HIB:Hid (I64 h.boot∧I64 h.next):=η (by obtain⟨cs,he,_,_,rfl,_,h1,h2,_⟩:=hv;exact⟨h1,h2⟩)
 have HOW:=η (fun(W:World) (hW:Grow w W)=>head_own W (hv.mono hW.sub) hk hp)
 have HLO:=η (fun(W:World) (hW:Grow w W)=>log_own W ((Of.hd_log hv).1.mono hW.sub) (by have:=hk.log;omega) hp)
 have hll:=hk.log
 have HP:=η hp
 obtain⟨hb0,hb1⟩:=hk.boot
 clear hk hv hp
 obtain⟨wa,hwa⟩:∃y:World,y=w.alloc (.cells #[.slice al h.log.length cl,.int .i64 h.boot,.int .i64 h.next,.slice ar h.opn.length cr] 35):=⟨_,rfl⟩
 obtain⟨wz,hwz⟩:∃y:World,y=wa.alloc (.cells #[.slice none 0 0,.int .i64 0,.int .i64 0,.slice none 0 0] 35):=⟨_,rfl⟩
 have hsz:wa.heap.size=w.heap.size+1:=by rw [hwa];simp
 have R1:Hid (wz.heap[w.heap.size]? =some (.cells #[.slice al h.log.length cl,.int .i64 h.boot,.int .i64 h.next,.slice ar h.opn.length cr] 35 (0,0))):=η (by rw [hwz,hwa];exact heap_later (row_new _ _) _)
 have R2:Hid (wz.heap[w.heap.size+1]? =some (.cells #[.slice none 0 0,.int .i64 0,.int .i64 0,.slice none 0 0] 35 (0,0))):=η (by rw [hwz,←hsz];exact row_new _ _)
 have G1:Hid (Grow w wz):=η (by rw [hwz,hwa];exact((Grow.refl w).alloc _).alloc _)
 have HZ:Hid (wz.heap.size=w.heap.size+2):=η (by rw [hwz,hwa];simp)
 by_cases hb:19<h.boot
 ·have HE1:Hid (fallH h=h):=η (by unfold fallH;rw [if_pos hb])
  have HE2:Hid (fallE h=5):=η (by unfold fallE;rw [if_pos hb])
  have hb':20≤h.boot:=by omega
  go_enter Tryz.func73,Tryz.ntmps73
  go_upto_region 1 with fail
  rw [←hwa]
  try rw [hsz]
  rw [←hwz]
  clear hwa hwz hsz
  obtain⟨c0,c1,c2,c3⟩:=cells4 R1.o
  have z1:w.heap.size<wz.heap.size:=(γ R1.o)
  go_wp2_with fail
  refine(HOW.o _ G1.o).mono ?_
  rintro e w1 ⟨vl,vo,B,L,rfl,hl,hr⟩
  obtain⟨al2,cl2,ao2,co2,rfl,rfl⟩:=hr.form
  have HRR:=η hr
  have HL:=η hl
  have R3:=η (row_grow R2.o hr.grow)
  clear hr hl c0 c1 c2 c3 z1
  go_wp2_with (first|(refine wpList_store_row rfl (.tmp 2) (.tmp 8) rfl rfl rfl R3.o info_hd rfl rfl ?_))
  intro w7 r7 g7
  obtain⟨p0,p1,p2,p3⟩:=cells4 r7
  go_wp2
  refine bodyPost_ret (v:=.tuple #[.agg #[.slice al2 h.log.length cl2,.int .i64 h.boot,.int .i64 h.next,.slice ao2 L.length co2],.int .i64 5]) (by simp [results,Tryz.results73,go_sem,p0,p1,p2,p3]) rfl ?_
  have hx:=HRR.o.past G1.o g7 (by have:=HZ.o;omega)
  rw [HE1.o,HE2.o]
  exact⟨_,rfl,hx.head HL.o HIB.o.1 HIB.o.2,hx.grow⟩
 ·have HE1:Hid (fallH h=headR (h.log++ [⟨4,0,[]⟩])):=η (by unfold fallH;rw [if_neg hb])
  have HE2:Hid (fallE h=0):=η (by unfold fallE;rw [if_neg hb])
  have hb':¬20≤h.boot:=by omega
  have HPP:Hid (∀r∈h.log++ [(⟨4,0,[]⟩:Rc)],r.parts.length*24≤140737488355328):=η (fun r hr=>by
   rcases List.mem_append.1 hr with hr|hr
   ·exact HP.o r hr
   ·obtain rfl:=List.mem_singleton.1 hr;decide)
  have HLL:Hid ((h.log++ [(⟨4,0,[]⟩:Rc)]).length=h.log.length+1):=η (by simp)
  go_enter Tryz.func73,Tryz.ntmps73
  go_upto_region 1 with fail
  rw [←hwa]
  try rw [hsz]
  rw [←hwz]
  clear hwa hwz hsz
  obtain⟨c0,c1,c2,c3⟩:=cells4 R1.o
  have z1:w.heap.size<wz.heap.size:=(γ R1.o)
  go_wp2_with fail
  refine(HLO.o _ G1.o).mono ?_
  rintro e w1 ⟨vl,rfl,hol,hb1⟩
  obtain⟨a3,c3',rfl⟩:=hol.form
  have HOL:=η hol
  have G3:=η hb1
  clear hol hb1 c0 c1 c2 c3 z1
  go_wp2_with (first|(at_builtin;refine wpList_appc (c:=fr wz w1 [(Value.slice a3 h.log.length c3').ownBlock]) (base:=wz.heap.size) (l:=h.log) (m:=[⟨4,0,[]⟩]) ei_rc rfl one_Trc (by decide) rfl (.tmp 11) (.tmp 13) rfl rfl (HOL.o.grow ((Grow.refl _).alloc _)) rfl (Src.of_new (T:=Ty.rc) (x:=⟨4,0,[]⟩) (cs:=#[.int .i64 4,.int .i64 0,.slice none 0 0]) ⟨_,rfl,(show I64 4 from by unfold I64;decide),zero_ok,Sl.nil _ _⟩ _ _ ?d1) ?d2 ?d3 ?_))
  case d1=>first|rfl|simp
  case d2=>(try simp);omega
  case d3=>have:=G3.o.size;(try simp);omega
  intro a9 c9 w9 ho9 hg9 hb9
  have G9:=η (grow_by (w0:=wz) (G3.o.alloc _) hg9 (fun q hq=>(HOL.o.lt q hq).1))
  have HX9:=η ((ho9.mono ((fr_grow ((Grow.refl w1).alloc (.cells #[.int .i64 4,.int .i64 0,.slice none 0 0] 81))).trans (fr_app hg9 (hb9.imp_right fun⟨g,e,hge⟩=>⟨g,e,by simpa using hge⟩)))).slc (d:=w9.cell?) (by decide) (fr_sub _ _ _) fun _ _=>rfl)
  have R29:=η (row_grow R2.o G9.o)
  clear ho9 hg9 hb9
  generalize h.log++ [(⟨4,0,[]⟩:Rc)]=lg at*
  go_wp2_with fail
  refine(wlog_head (l:=lg) w9 ?hl (by rw [HLL.o];omega) HPP.o).mono ?_
  case hl=>first|exact HX9.o|(have h9:=HX9.o;rw [HLL.o] at h9;simpa using h9)
  rintro e w10 ⟨v10,rfl,hx,hb10⟩
  obtain⟨al2,cl2,ar2,cr2,rfl⟩:=hx.hd_form
  have R210:=η (row_grow R29.o hb10)
  have HX:=η hx
  have GB10:=η hb10
  have G10:=η (G9.o.trans hb10)
  clear hx hb10
  go_wp2_with (first|(refine wpList_store_row rfl (.tmp 2) (.tmp 15) rfl rfl rfl R210.o info_hd rfl rfl ?_))
  intro w7 r7 g7
  obtain⟨p0,p1,p2,p3⟩:=cells4 r7
  go_wp2
  refine bodyPost_ret (v:=.tuple #[.agg #[.slice al2 (headR lg).log.length cl2,.int .i64 (headR lg).boot,.int .i64 (headR lg).next,.slice ar2 (headR lg).opn.length cr2],.int .i64 0]) (by simp [results,Tryz.results73,go_sem,p0,p1,p2,p3]) rfl ?_
  rw [HE1.o,HE2.o]
  refine⟨_,rfl,?_,(G1.o.trans G10.o).grown g7 (fun q hq=>by simp at hq;omega)⟩
  exact HX.o.mono (ovn_set (G1.o.trans G9.o) (by have:=G9.o.size;have:=HZ.o;omega) g7 GB10.o)
theorem info_opn4:(Tryz.prog.info? 147).map (·.size)=some 4:=by kernel_rfl
set_option maxRecDepth 100000 in
set_option maxHeartbeats 4000000 in
theorem whead_begin {v vp:Value} {h:Hd} {P:List Pt} (w:World) (hv:Of Ty.hd w.cell? v h) (hp:Pts w.cell? vp P) (hk:HdOk h) (hlp:∀r∈h.log,r.parts.length*24≤140737488355328) (hP:PtsR P):
  Calls Tryz.prog 67 #[v,vp] w fun e w'=>∃v1 v2,e=.returned (.tuple #[v1,v2,.int .i64 (beginE h)])∧Of Ty.hd (ov (fun _=>none) w w') v1 (beginH h P)∧Sl Ty.ms (ov (fun _=>none) w w') v2 (beginM h P)∧Grow w w':=by
 obtain⟨al,cl,ar,cr,rfl⟩:=hv.hd_form
 obtain⟨ap,cp,rfl,-⟩:=id hp
 have HIB:Hid (I64 h.boot∧I64 h.next):=η (by obtain⟨cs,he,_,_,rfl,_,h1,h2,_⟩:=hv;exact⟨h1,h2⟩)
 have HOW:=η (fun(W:World) (hW:Grow w W)=>head_own W (hv.mono hW.sub) hk hlp)
 have HCL:=η (fun(W:World) (hW:Grow w W)=>clone_pt W (hp.mono hW.sub) (by have:=hP.len;omega))
 have HPO:=η (Pts.ok hp)
 have HPR:=η hP
 have h12:=hk.opn
 obtain⟨hb0,hb1⟩:=hk.boot
 obtain⟨hn0,hn1⟩:=hk.next
 clear hk hv hp hP hlp
 obtain⟨wa,hwa⟩:∃y:World,y=w.alloc (.cells #[.slice al h.log.length cl,.int .i64 h.boot,.int .i64 h.next,.slice ar h.opn.length cr] 35):=⟨_,rfl⟩
 obtain⟨wz,hwz⟩:∃y:World,y=wa.alloc (.cells #[.slice none 0 0,.int .i64 0,.int .i64 0,.slice none 0 0] 35):=⟨_,rfl⟩
 have hsz:wa.heap.size=w.heap.size+1:=by rw [hwa];simp
 have R1:Hid (wz.heap[w.heap.size]? =some (.cells #[.slice al h.log.length cl,.int .i64 h.boot,.int .i64 h.next,.slice ar h.opn.length cr] 35 (0,0))):=η (by rw [hwz,hwa];exact heap_later (row_new _ _) _)
 have R2:Hid (wz.heap[w.heap.size+1]? =some (.cells #[.slice none 0 0,.int .i64 0,.int .i64 0,.slice none 0 0] 35 (0,0))):=η (by rw [hwz,←hsz];exact row_new _ _)
 have G1:Hid (Grow w wz):=η (by rw [hwz,hwa];exact((Grow.refl w).alloc _).alloc _)
 have HZ:Hid (wz.heap.size=w.heap.size+2):=η (by rw [hwz,hwa];simp)
 go_enter Tryz.func67,Tryz.ntmps67
 go_upto_region 1 with fail
 rw [←hwa]
 try rw [hsz]
 rw [←hwz]
 clear hwa hwz hsz
 obtain⟨c0,c1,c2,c3⟩:=cells4 R1.o
 have z1:w.heap.size<wz.heap.size:=(γ R1.o)
 go_wp2_with fail
 refine(HOW.o _ G1.o).mono ?_
 rintro e w1 ⟨vl,vo,B0,L,rfl,hl,hr0⟩
 obtain⟨ag,cg,ao,co,rfl,rfl⟩:=hr0.form
 have HL:=η hl
 have HR0:=η hr0
 clear hr0 hl c0 c1 c2 c3 z1
 obtain⟨w2,hw2⟩:∃y:World,y=w1.alloc (.cells #[.slice ag h.log.length cg,.int .i64 h.boot,.int .i64 h.next,.slice ao L.length co] 35):=⟨_,rfl⟩
 obtain⟨B7,hB7⟩:∃y,y=w1.heap.size:=⟨_,rfl⟩
 have R7:Hid (w2.heap[B7]? =some (.cells #[.slice ag h.log.length cg,.int .i64 h.boot,.int .i64 h.next,.slice ao L.length co] 35 (0,0))):=η (by rw [hw2,hB7];exact row_new _ _)
 have HRR:Hid (HR wz w2 B7 (.slice ag h.log.length cg) (.slice ao L.length co) h.log L):=η (HR0.o.rebox (by rw [hw2];exact(Grow.refl _).alloc _) (by omega) (by rw [hw2,hB7];simp))
 have HLN:Hid (L.length=h.opn.length):=η (by rw [←HL.o];simp)
 have R12:=η (row_grow R1.o HRR.o.grow)
 have R22:=η (row_grow R2.o HRR.o.grow)
 go_upto_region 2 with fail
 rw [←hw2,←hB7]
 clear hw2 hB7
 obtain⟨c0,c1,c2,c3'⟩:=cells4 R12.o
 obtain⟨d0,d1,d2,d3⟩:=cells4 R7.o
 have z1:w.heap.size<w2.heap.size:=(γ R12.o)
 have z7:B7<w2.heap.size:=(γ R7.o)
 have zr:w.heap.size+1<w2.heap.size:=(γ R22.o)
 by_cases hf1:11<h.opn.length
 ·obtain⟨e1,e2,e3⟩:=begin_full (P:=P) (show fullE h=true from decide_eq_true (.inl hf1))
  have HE1:=η e1
  have HE2:=η e2
  have HE3:=η e3
  have hf1':(12:Int)≤(h.opn.length:Int):=by omega
  clear e1 e2 e3 hf1
  go_wp2_with (first|(refine wpList_store_row rfl (.tmp 4) (.tmp 20) rfl rfl rfl R22.o info_hd rfl rfl ?_))
  intro w7 r7 g7
  obtain⟨p0,p1,p2,p3⟩:=cells4 r7
  go_wp2
  refine bodyPost_ret (v:=.tuple #[.agg #[.slice ag h.log.length cg,.int .i64 h.boot,.int .i64 h.next,.slice ao L.length co],.slice none 0 0,.int .i64 9]) (by simp [results,Tryz.results67,go_sem,p0,p1,p2,p3]) rfl ?_
  have hx:=HRR.o.past G1.o g7 (by have:=HZ.o;omega)
  rw [HE1.o,HE2.o,HE3.o]
  exact⟨_,_,rfl,hx.head HL.o HIB.o.1 HIB.o.2,Sl.nil _ _,hx.grow⟩
 by_cases hf2:63<h.next
 ·obtain⟨e1,e2,e3⟩:=begin_full (P:=P) (show fullE h=true from decide_eq_true (.inr hf2))
  have HE1:=η e1
  have HE2:=η e2
  have HE3:=η e3
  have hf1':¬(12:Int)≤(h.opn.length:Int):=by omega
  have hf2':(64:Int)≤h.next:=by omega
  clear e1 e2 e3 hf1 hf2
  go_wp2_with (first|(refine wpList_store_row rfl (.tmp 4) (.tmp 20) rfl rfl rfl R22.o info_hd rfl rfl ?_))
  intro w7 r7 g7
  obtain⟨p0,p1,p2,p3⟩:=cells4 r7
  go_wp2
  refine bodyPost_ret (v:=.tuple #[.agg #[.slice ag h.log.length cg,.int .i64 h.boot,.int .i64 h.next,.slice ao L.length co],.slice none 0 0,.int .i64 9]) (by simp [results,Tryz.results67,go_sem,p0,p1,p2,p3]) rfl ?_
  have hx:=HRR.o.past G1.o g7 (by have:=HZ.o;omega)
  rw [HE1.o,HE2.o,HE3.o]
  exact⟨_,_,rfl,hx.head HL.o HIB.o.1 HIB.o.2,Sl.nil _ _,hx.grow⟩
 obtain⟨e1,e2,e3⟩:=begin_go (P:=P) (show fullE h=false from decide_eq_false (by omega))
 have HE1:=η e1
 have HE2:=η e2
 have HE3:=η e3
 have hf1':¬(12:Int)≤(h.opn.length:Int):=by omega
 have hf2':¬(64:Int)≤h.next:=by omega
 have hw1:IntKind.i64.wrap (64*h.boot)=64*h.boot:=IntWalk.i64_in _ (by omega)
 have hw2:IntKind.i64.wrap (64*h.boot+h.next)=64*h.boot+h.next:=IntWalk.i64_in _ (by omega)
 have hw3:IntKind.i64.wrap (h.next+1)=h.next+1:=IntWalk.i64_in _ (by omega)
 have HDI:Hid (I64 (64*h.boot+h.next)):=η (i64_of (by omega) (by omega))
 have HNI:Hid (I64 (h.next+1)):=η (i64_of (by omega) (by omega))
 have HL12:Hid (h.opn.length≤11):=η (by omega)
 clear e1 e2 e3 hf1 hf2
 have HS:Hid (∀W,Grow w2 W→W.cell? ⟨w.heap.size,1,none⟩=some (.int .i64 h.boot)∧W.cell? ⟨w.heap.size,2,none⟩=some (.int .i64 h.next)):=fun W hW=>by
  obtain⟨-,j1,j2,-⟩:=cells4 (row_grow R12.o hW)
  exact⟨j1,j2⟩
 go_upto_region 4 with fail
 clear c0 c1 c2 c3' d0 d1 d2 d3 z1 z7 zr hf1' hf2'
 go_cut [8] from 21 (fun s8 wc=>∃B8 a8 c8 dd,dd=64*h.boot+h.next∧s8=.pointer (some ⟨B8,0,none⟩)∧wc.heap[B8]? =some (.cells #[.int .i64 dd,.slice a8 P.length c8,.bool false,.slice none 0 0] 147 (0,0))∧OwnC Ty.pt (fun _=>none) wc w2.heap.size 31 (.slice a8 P.length c8) P∧w2.heap.size≤B8∧Grow w2 wc)
 case first=>
  refine bSc (fun w'=>w'.cell? ⟨w.heap.size,1,none⟩=some (.int .i64 h.boot)∧w'.cell? ⟨w.heap.size,2,none⟩=some (.int .i64 h.next)) [10] (by kernel_rfl) ?_
  intro wd GD zD
  have ZD:=η zD
  clear zD
  refine bLc [0,1,2,3,4,5,6] 13 (by kernel_rfl) (fun _ _ _ _ _ h=>h) (HS.o _ GD) ?_
  repeat (refine tNc (v:=?_) rfl (by rfl) ?_ ?_;rotate_left;(· (intro w' hSw;(try dsimp only at hSw);obtain⟨hs0,hs1⟩:=hSw;go_simp<;>with_reducible rfl));try simp only [Act.put,lzA,lzB,lzC,lzD,lzE,lzF])
  refine tEc ?_
  refine bPc 7 9 (by kernel_rfl) rfl rfl ?_ ?_
  ·intro K HK
   try simp only [lzA,lzB,lzC]
   go_simp
   go_at_call 29
   refine(HCL.o _ (G1.o.trans (HRR.o.grow.trans GD))).mono ?_
   rintro e w5 ⟨v5,rfl,ho5,hb5⟩
   obtain⟨a8,c8,rfl⟩:=owns_form ho5
   have HO5:=η (OwnC.pts (c:=fun _=>none) ho5 HPO.o)
   have GB5:=η hb5
   have G5:=η (Grow.trans GD hb5)
   clear ho5 hb5
   refine HK.o _ _ ⟨.inr (HS.o _ G5.o),?_⟩
   clear HK K
   try simp only [Act.put,lzA,lzB,lzC,lzD,lzE,lzF]
   refine bLc [8] 13 (by kernel_rfl) (fun _ _ _ _ _ h=>h) (HS.o _ G5.o) ?_
   repeat (refine tNc (v:=?_) rfl (by rfl) ?_ ?_;rotate_left;(· (intro w' hSw;(try dsimp only at hSw);obtain⟨hs0,hs1⟩:=hSw;go_simp<;>with_reducible rfl));try simp only [Act.put,lzA,lzB,lzC,lzD,lzE,lzF])
   refine tEc ?_
   refine bOc 9 (by kernel_rfl) rfl ?_
   intro K HK
   try simp only [lzA,lzB,lzC]
   go_simp
   obtain⟨w6,hw6⟩:∃y:World,y=w5.alloc (.cells #[.int .i64 0,.slice none 0 0,.bool false,.slice none 0 0] 147):=⟨_,rfl⟩
   obtain⟨B8,hB8⟩:∃B,B=w5.heap.size:=⟨_,rfl⟩
   rw [←hw6,←hB8]
   have R8:Hid (w6.heap[B8]? =some (.cells #[.int .i64 0,.slice none 0 0,.bool false,.slice none 0 0] 147 (0,0))):=η (by rw [hw6,hB8];exact row_new _ _)
   have G6:Hid (Grow w5 w6):=η (by rw [hw6];exact(Grow.refl _).alloc _)
   have HB8:=η hB8
   have HS6:Hid (w6.heap.size=B8+1):=η (by rw [hw6,hB8];simp)
   have GA6:=η (Grow.trans G5.o G6.o)
   clear hw6 hB8
   refine HK.o _ _ ⟨.inr (HS.o _ GA6.o),?_⟩
   clear HK K
   try simp only [Act.put,lzA,lzB,lzC,lzD,lzE,lzF]
   refine bOc 10 (by kernel_rfl) rfl ?_
   intro K HK
   refine wanted_go rfl ?_
   try simp only [lzA,lzB,lzC]
   refine wp_store_row (.tmp 8) (.tmp 29) rfl rfl rfl R8.o info_opn4 rfl rfl ?_
   intro wc rc gc
   refine HK.o _ _ ⟨.inl (by decide),?_⟩
   clear HK K
   try simp only [Act.put]
   refine bDc (by kernel_rfl) ?_
   go_wp2
   go_meet
   case rel=>
    have z2:=ZD.o
    have z3:=HB8.o
    have z5:=GB5.o.size
    have z6:=HS6.o
    exact⟨B8,a8,c8,_,rfl,rfl,rc,((HO5.o.grow G6.o).kept gc (off_of fun q hq=>by have:=HO5.o.lt q hq;omega)).base (by omega),by omega,(GA6.o).grown gc (fun q hq=>by have:=Option.some.inj hq;omega)⟩
  ·intro K HK
   try simp only [lzA,lzB,lzC]
   go_simp
   obtain⟨w6,hw6⟩:∃y:World,y=wd.alloc (.cells #[.int .i64 0,.slice none 0 0,.bool false,.slice none 0 0] 147):=⟨_,rfl⟩
   obtain⟨B8,hB8⟩:∃B,B=wd.heap.size:=⟨_,rfl⟩
   rw [←hw6,←hB8]
   have R8:Hid (w6.heap[B8]? =some (.cells #[.int .i64 0,.slice none 0 0,.bool false,.slice none 0 0] 147 (0,0))):=η (by rw [hw6,hB8];exact row_new _ _)
   have G6:Hid (Grow wd w6):=η (by rw [hw6];exact(Grow.refl _).alloc _)
   have HB8:=η hB8
   have HS6:Hid (w6.heap.size=B8+1):=η (by rw [hw6,hB8];simp)
   have GA6:=η (Grow.trans GD G6.o)
   clear hw6 hB8
   refine HK.o _ _ ⟨.inr (HS.o _ GA6.o),?_⟩
   clear HK K
   try simp only [Act.put,lzA,lzB,lzC,lzD,lzE,lzF]
   refine bOc 7 (by kernel_rfl) rfl ?_
   intro K HK
   try simp only [lzA,lzB,lzC]
   go_simp
   go_at_call 29
   refine(HCL.o _ (G1.o.trans (HRR.o.grow.trans GA6.o))).mono ?_
   rintro e w5 ⟨v5,rfl,ho5,hb5⟩
   obtain⟨a8,c8,rfl⟩:=owns_form ho5
   have HO5:=η (OwnC.pts (c:=fun _=>none) ho5 HPO.o)
   have GB5:=η hb5
   have G5:=η (Grow.trans GA6.o hb5)
   clear ho5 hb5
   have R85:=η (row_grow R8.o GB5.o)
   refine HK.o _ _ ⟨.inr (HS.o _ G5.o),?_⟩
   clear HK K
   try simp only [Act.put,lzA,lzB,lzC,lzD,lzE,lzF]
   refine bLc [8] 13 (by kernel_rfl) (fun _ _ _ _ _ h=>h) (HS.o _ G5.o) ?_
   repeat (refine tNc (v:=?_) rfl (by rfl) ?_ ?_;rotate_left;(· (intro w' hSw;(try dsimp only at hSw);obtain⟨hs0,hs1⟩:=hSw;go_simp<;>with_reducible rfl));try simp only [Act.put,lzA,lzB,lzC,lzD,lzE,lzF])
   refine tEc ?_
   refine bOc 10 (by kernel_rfl) rfl ?_
   intro K HK
   refine wanted_go rfl ?_
   try simp only [lzA,lzB,lzC]
   refine wp_store_row (.tmp 8) (.tmp 29) rfl rfl rfl R85.o info_opn4 rfl rfl ?_
   intro wc rc gc
   refine HK.o _ _ ⟨.inl (by decide),?_⟩
   clear HK K
   try simp only [Act.put]
   refine bDc (by kernel_rfl) ?_
   go_wp2
   go_meet
   case rel=>
    have z2:=ZD.o
    have z3:=HB8.o
    have z5:=GB5.o.size
    have z6:=HS6.o
    exact⟨B8,a8,c8,_,rfl,rfl,rc,(HO5.o.kept gc (off_of fun q hq=>by have:=HO5.o.lt q hq;omega)).base (by omega),by omega,(G5.o).grown gc (fun q hq=>by have:=Option.some.inj hq;omega)⟩
 case rest=>
 obtain⟨B8,a8,c8,dd,hdd,rfl,r8,o8,hB8,gx⟩:=hcut
 obtain⟨w4,rfl⟩:∃y:World,y=wc:=⟨_,rfl⟩
 rw [←hdd] at HDI
 have HDD:=η hdd
 have R8:=η r8
 have O8:=η o8
 have HB8:=η hB8
 have GX:=η gx
 have HR4:=η (HRR.o.later gx)
 have R74:=η (row_grow R7.o gx)
 have HL7:=η (γ R7.o)
 clear HS hdd r8 o8 hB8 gx hw1 hw2
 have HS:Hid (∀W:World,W.heap[B7]? =w4.heap[B7]?→W.heap[B8]? =w4.heap[B8]?→W.cell? ⟨B7,2,none⟩=some (.int .i64 h.next)∧W.cell? ⟨B8,0,none⟩=some (.int .i64 dd)∧W.cell? ⟨B8,1,none⟩=some (.slice a8 P.length c8)∧W.cell? ⟨B8,2,none⟩=some (.bool false)∧W.cell? ⟨B8,3,none⟩=some (.slice none 0 0)):=fun W e7 e8=>by
  obtain⟨-,-,j2,-⟩:=cells4 (e7.trans R74.o)
  obtain⟨k0,k1,k2,k3⟩:=cells4 (e8.trans R8.o)
  exact⟨j2,k0,k1,k2,k3⟩
 have HSG:Hid (∀W,Grow w4 W→W.cell? ⟨B7,2,none⟩=some (.int .i64 h.next)∧W.cell? ⟨B8,0,none⟩=some (.int .i64 dd)∧W.cell? ⟨B8,1,none⟩=some (.slice a8 P.length c8)∧W.cell? ⟨B8,2,none⟩=some (.bool false)∧W.cell? ⟨B8,3,none⟩=some (.slice none 0 0)):=fun W hW=>
  HS.o W (hW.block _ (γ R74.o)) (hW.block _ (γ R8.o))
 go_upto_region 5 with fail
 go_cut [] from 30 (fun wc=>∃a9 c9,wc.heap[B7]? =some (.cells #[.slice ag h.log.length cg,.int .i64 h.boot,.int .i64 (h.next+1),.slice a9 (L.length+1) c9] 35 (0,0))∧HR wz wc B7 (.slice ag h.log.length cg) (.slice a9 (L.length+1) c9) h.log (L++ [((⟨dd,P,false,[]⟩:Opn),.slice none 0 0)])∧OpnAt wc B8 0 (⟨dd,P,false,[]⟩:Opn) a8 c8 none 0)
 case first=>
  refine bSc (fun w'=>w'.cell? ⟨B7,2,none⟩=some (.int .i64 h.next)∧w'.cell? ⟨B8,0,none⟩=some (.int .i64 dd)∧w'.cell? ⟨B8,1,none⟩=some (.slice a8 P.length c8)∧w'.cell? ⟨B8,2,none⟩=some (.bool false)∧w'.cell? ⟨B8,3,none⟩=some (.slice none 0 0)) [11] (by kernel_rfl) ?_
  intro wd GD zD
  have ZD:=η zD
  clear zD
  refine bLc [0,2,5,6,7] 14 (by kernel_rfl) (fun _ _ _ _ _ h=>h) (HSG.o _ GD) ?_
  repeat (refine tNc (v:=?_) rfl (by rfl) ?_ ?_;rotate_left;(· (intro w' hSw;(try dsimp only at hSw);obtain⟨hs0,hs1,hs2,hs3,hs4⟩:=hSw;go_simp<;>with_reducible rfl));try simp only [Act.put,lzA,lzB,lzC,lzD,lzE,lzF])
  refine tEc ?_
  refine bPc 1 3 (by kernel_rfl) rfl rfl ?_ ?_
  ·intro K HK
   try simp only [lzA,lzB,lzC]
   obtain⟨-,-,-,d3⟩:=cells4 (row_grow R74.o GD)
   have z7:B7<wd.heap.size:=World.block_lt_of_cell? _ _ d3
   go_simp
   clear d3 z7
   refine HK.o _ _ ⟨.inr (HSG.o _ GD),?_⟩
   clear HK K
   try simp only [Act.put,lzA,lzB,lzC,lzD,lzE,lzF]
   refine bOc 3 (by kernel_rfl) rfl ?_
   intro K HK
   try simp only [lzA,lzB,lzC]
   go_simp
   obtain⟨w6,hw6⟩:∃y:World,y=wd.alloc (.cells #[.int .i64 dd,.slice a8 P.length c8,.bool false,.slice none 0 0] 147):=⟨_,rfl⟩
   have G6:Hid (Grow w4 w6):=η (by rw [hw6];exact GD.alloc _)
   have HAH:=η (HR4.o.ahead (r:=none) G6.o (fun q hq=>by cases hq))
   have HSR:Hid (Src Ty.oph (fr wz w6 (none::hro B7 (.slice ag h.log.length cg) (.slice ao L.length co) L)) w6 (.slice (some ⟨wd.heap.size,0,none⟩) 1 1) [((⟨dd,P,false,[]⟩:Opn),.slice none 0 0)]):=η (by
    have z2:=HRR.o.grow.size
    have hsl:Sl Ty.pt (fr wz w6 (none::hro B7 (.slice ag h.log.length cg) (.slice ao L.length co) L)) (.slice a8 P.length c8) P:=(O8.o.grow G6.o).slb (by decide) (fun a v e=>by cases e) fun a ha=>fr_new (by have:=O8.o.lt _ ha;omega) (fun hm=>by
     rcases List.mem_cons.1 hm with e|hm
     ·cases e
     ·have:=(HRR.o.ok.lt _ hm).2;have:=O8.o.lt _ ha;omega)
    rw [hw6] at hsl ⊢
    exact Src.of_new (T:=Ty.oph) (x:=((⟨dd,P,false,[]⟩:Opn),.slice none 0 0)) (cs:=#[.int .i64 dd,.slice a8 P.length c8,.bool false,.slice none 0 0]) ⟨_,rfl,HDI.o,hsl,rfl⟩ _ _ rfl)
   rw [←hw6]
   clear hw6
   refine HK.o _ _ ⟨.inr (HSG.o _ G6.o),?_⟩
   clear HK K
   try simp only [Act.put,lzA,lzB,lzC,lzD,lzE,lzF]
   refine bOc 4 (by kernel_rfl) rfl ?_
   intro K HK
   refine wanted_go rfl ?_
   try simp only [lzA,lzB,lzC]
   refine wp_appc (c:=fr wz w6 (none::hro B7 (.slice ag h.log.length cg) (.slice ao L.length co) L)) (base:=wz.heap.size) (l:=L) (m:=[((⟨dd,P,false,[]⟩:Opn),.slice none 0 0)]) (v:=.slice ao L.length co) ei_opn rfl one_Toph (by decide) (.tmp 31) (.tmp 33) rfl rfl ((HR4.o.opn.mono HAH.o.2).grow G6.o) rfl HSR.o (by have:=HL12.o;have:=HLN.o;simp;omega) (by have:=HR4.o.grow.size;have:=G6.o.size;omega) ?_
   intro a9 c9 w7 ho7 hg7 hb7
   have NB7:Hid (some B7≠(Value.slice ao L.length co).ownBlock):=η (by rcases HR4.o.ok.off (i:=0) (j:=2) rfl rfl (by decide) with e|e;exact absurd e (by simp);exact e)
   have NB8:Hid (some B8≠(Value.slice ao L.length co).ownBlock):=η (fun e=>by have:=(HRR.o.opn.lt _ e.symm).2;have:=HB8.o;omega)
   have HR7:=η (HR4.o.snoc (vo':=.slice a9 (L.length+1) c9) (x:=((⟨dd,P,false,[]⟩:Opn),.slice none 0 0)) G6.o (OwnC.nil _ _ _ _ _) hg7 hb7 ho7)
   have R77:=η (row_by (row_grow R74.o G6.o) hg7 NB7.o)
   have R87:=η (row_by (row_grow R8.o G6.o) hg7 NB8.o)
   have O87:=η ((O8.o.grow G6.o).kept hg7 (by cases e:(Value.slice a8 P.length c8).ownBlock with|none=>exact .inl rfl|some q=>exact .inr fun e2=>by have:=(O8.o.lt q e).1;have:=(HRR.o.opn.lt q e2.symm).2;omega))
   clear ho7 hg7 hb7
   refine HK.o _ _ ⟨.inr (HS.o _ (R77.o.trans R74.o.symm) (R87.o.trans R8.o.symm)),?_⟩
   clear HK K
   try simp only [Act.put,lzD,lzE,lzF]
   refine bLc [8] 14 (by kernel_rfl) (fun _ _ _ _ _ h=>h) (HS.o _ (R77.o.trans R74.o.symm) (R87.o.trans R8.o.symm)) ?_
   repeat (refine tNc (v:=?_) rfl (by rfl) ?_ ?_;rotate_left;(· (intro w' hSw;(try dsimp only at hSw);obtain⟨hs0,hs1,hs2,hs3,hs4⟩:=hSw;go_simp<;>with_reducible rfl));try simp only [Act.put,lzA,lzB,lzC,lzD,lzE,lzF])
   refine tEc ?_
   refine bOc 9 (by kernel_rfl) rfl ?_
   intro K HK
   refine wanted_go rfl ?_
   try simp only [lzA,lzB,lzC]
   refine wp_store_cell (.tmp 38) (.tmp 34) (v:=.slice a9 (L.length+1) c9) (new:=#[.slice ag h.log.length cg,.int .i64 h.boot,.int .i64 h.next,.slice a9 (L.length+1) c9]) rfl rfl (by rfl) (by rfl) R77.o info_opns (by simp) (by rfl) (by rfl) ?_
   intro w8 r8 g8
   have HR8:=η (HR7.o.box g8)
   have R78:=η r8
   have NE78:Hid (B8≠B7):=η (by have:=HB8.o;have:=HL7.o;omega)
   have R88:=η (row_by R87.o g8 (fun e=>NE78.o (Option.some.inj e)))
   have O88:=η (O87.o.kept g8 (off_of fun q hq=>by have:=(O8.o.lt q hq).1;have:=HL7.o;omega))
   clear r8 g8
   refine HK.o _ _ ⟨.inr (by obtain⟨-,-,j2,-⟩:=cells4 R78.o;obtain⟨k0,k1,k2,k3⟩:=cells4 R88.o;exact⟨j2,k0,k1,k2,k3⟩),?_⟩
   clear HK K
   try simp only [Act.put]
   refine bLc [10] 14 (by kernel_rfl) (fun _ _ _ _ _ h=>h) (by obtain⟨-,-,j2,-⟩:=cells4 R78.o;obtain⟨k0,k1,k2,k3⟩:=cells4 R88.o;exact⟨j2,k0,k1,k2,k3⟩) ?_
   repeat (refine tNc (v:=?_) rfl (by rfl) ?_ ?_;rotate_left;(· (intro w' hSw;(try dsimp only at hSw);obtain⟨hs0,hs1,hs2,hs3,hs4⟩:=hSw;go_simp<;>with_reducible rfl));try simp only [Act.put,lzA,lzB,lzC,lzD,lzE,lzF])
   refine tEc ?_
   refine bOc 11 (by kernel_rfl) rfl ?_
   intro K HK
   refine wanted_go rfl ?_
   try simp only [lzA,lzB,lzC]
   refine wp_store_cell (.tmp 39) (.tmp 37) (v:=.int .i64 (h.next+1)) (new:=#[.slice ag h.log.length cg,.int .i64 h.boot,.int .i64 (h.next+1),.slice a9 (L.length+1) c9]) rfl rfl (by rfl) (by rfl) R78.o info_int1 (by simp) (by rfl) (by rfl) ?_
   intro w9 r9 g9
   refine HK.o _ _ ⟨.inl (by decide),?_⟩
   clear HK K
   try simp only [Act.put]
   refine bDc (by kernel_rfl) ?_
   go_wp2
   go_meet
   case rel=>
    obtain⟨k0,k1,k2,k3⟩:=cells4 (row_by R88.o g9 (fun e=>NE78.o (Option.some.inj e)))
    exact⟨a9,c9,r9,HR8.o.box g9,⟨k0,k1,k2,k3,HDI.o,(O88.o.kept g9 (off_of fun q hq=>by have:=(O8.o.lt q hq).1;have:=HL7.o;omega)).slc (by decide) (fun _ _ e=>by cases e) fun _ _=>rfl,Sl.nil _ _⟩⟩
  ·intro K HK
   try simp only [lzA,lzB,lzC]
   go_simp
   obtain⟨w6,hw6⟩:∃y:World,y=wd.alloc (.cells #[.int .i64 dd,.slice a8 P.length c8,.bool false,.slice none 0 0] 147):=⟨_,rfl⟩
   have G6:Hid (Grow w4 w6):=η (by rw [hw6];exact GD.alloc _)
   have HAH:=η (HR4.o.ahead (r:=none) G6.o (fun q hq=>by cases hq))
   have HSR:Hid (Src Ty.oph (fr wz w6 (none::hro B7 (.slice ag h.log.length cg) (.slice ao L.length co) L)) w6 (.slice (some ⟨wd.heap.size,0,none⟩) 1 1) [((⟨dd,P,false,[]⟩:Opn),.slice none 0 0)]):=η (by
    have z2:=HRR.o.grow.size
    have hsl:Sl Ty.pt (fr wz w6 (none::hro B7 (.slice ag h.log.length cg) (.slice ao L.length co) L)) (.slice a8 P.length c8) P:=(O8.o.grow G6.o).slb (by decide) (fun a v e=>by cases e) fun a ha=>fr_new (by have:=O8.o.lt _ ha;omega) (fun hm=>by
     rcases List.mem_cons.1 hm with e|hm
     ·cases e
     ·have:=(HRR.o.ok.lt _ hm).2;have:=O8.o.lt _ ha;omega)
    rw [hw6] at hsl ⊢
    exact Src.of_new (T:=Ty.oph) (x:=((⟨dd,P,false,[]⟩:Opn),.slice none 0 0)) (cs:=#[.int .i64 dd,.slice a8 P.length c8,.bool false,.slice none 0 0]) ⟨_,rfl,HDI.o,hsl,rfl⟩ _ _ rfl)
   rw [←hw6]
   clear hw6
   refine HK.o _ _ ⟨.inr (HSG.o _ G6.o),?_⟩
   clear HK K
   try simp only [Act.put,lzA,lzB,lzC,lzD,lzE,lzF]
   refine bOc 1 (by kernel_rfl) rfl ?_
   intro K HK
   try simp only [lzA,lzB,lzC]
   obtain⟨-,-,-,d3⟩:=cells4 (row_grow R74.o G6.o)
   have z7:B7<w6.heap.size:=World.block_lt_of_cell? _ _ d3
   go_simp
   clear d3 z7
   refine HK.o _ _ ⟨.inr (HSG.o _ G6.o),?_⟩
   clear HK K
   try simp only [Act.put,lzA,lzB,lzC,lzD,lzE,lzF]
   refine bOc 4 (by kernel_rfl) rfl ?_
   intro K HK
   refine wanted_go rfl ?_
   try simp only [lzA,lzB,lzC]
   refine wp_appc (c:=fr wz w6 (none::hro B7 (.slice ag h.log.length cg) (.slice ao L.length co) L)) (base:=wz.heap.size) (l:=L) (m:=[((⟨dd,P,false,[]⟩:Opn),.slice none 0 0)]) (v:=.slice ao L.length co) ei_opn rfl one_Toph (by decide) (.tmp 31) (.tmp 33) rfl rfl ((HR4.o.opn.mono HAH.o.2).grow G6.o) rfl HSR.o (by have:=HL12.o;have:=HLN.o;simp;omega) (by have:=HR4.o.grow.size;have:=G6.o.size;omega) ?_
   intro a9 c9 w7 ho7 hg7 hb7
   have NB7:Hid (some B7≠(Value.slice ao L.length co).ownBlock):=η (by rcases HR4.o.ok.off (i:=0) (j:=2) rfl rfl (by decide) with e|e;exact absurd e (by simp);exact e)
   have NB8:Hid (some B8≠(Value.slice ao L.length co).ownBlock):=η (fun e=>by have:=(HRR.o.opn.lt _ e.symm).2;have:=HB8.o;omega)
   have HR7:=η (HR4.o.snoc (vo':=.slice a9 (L.length+1) c9) (x:=((⟨dd,P,false,[]⟩:Opn),.slice none 0 0)) G6.o (OwnC.nil _ _ _ _ _) hg7 hb7 ho7)
   have R77:=η (row_by (row_grow R74.o G6.o) hg7 NB7.o)
   have R87:=η (row_by (row_grow R8.o G6.o) hg7 NB8.o)
   have O87:=η ((O8.o.grow G6.o).kept hg7 (by cases e:(Value.slice a8 P.length c8).ownBlock with|none=>exact .inl rfl|some q=>exact .inr fun e2=>by have:=(O8.o.lt q e).1;have:=(HRR.o.opn.lt q e2.symm).2;omega))
   clear ho7 hg7 hb7
   refine HK.o _ _ ⟨.inr (HS.o _ (R77.o.trans R74.o.symm) (R87.o.trans R8.o.symm)),?_⟩
   clear HK K
   try simp only [Act.put,lzD,lzE,lzF]
   refine bLc [8] 14 (by kernel_rfl) (fun _ _ _ _ _ h=>h) (HS.o _ (R77.o.trans R74.o.symm) (R87.o.trans R8.o.symm)) ?_
   repeat (refine tNc (v:=?_) rfl (by rfl) ?_ ?_;rotate_left;(· (intro w' hSw;(try dsimp only at hSw);obtain⟨hs0,hs1,hs2,hs3,hs4⟩:=hSw;go_simp<;>with_reducible rfl));try simp only [Act.put,lzA,lzB,lzC,lzD,lzE,lzF])
   refine tEc ?_
   refine bOc 9 (by kernel_rfl) rfl ?_
   intro K HK
   refine wanted_go rfl ?_
   try simp only [lzA,lzB,lzC]
   refine wp_store_cell (.tmp 38) (.tmp 34) (v:=.slice a9 (L.length+1) c9) (new:=#[.slice ag h.log.length cg,.int .i64 h.boot,.int .i64 h.next,.slice a9 (L.length+1) c9]) rfl rfl (by rfl) (by rfl) R77.o info_opns (by simp) (by rfl) (by rfl) ?_
   intro w8 r8 g8
   have HR8:=η (HR7.o.box g8)
   have R78:=η r8
   have NE78:Hid (B8≠B7):=η (by have:=HB8.o;have:=HL7.o;omega)
   have R88:=η (row_by R87.o g8 (fun e=>NE78.o (Option.some.inj e)))
   have O88:=η (O87.o.kept g8 (off_of fun q hq=>by have:=(O8.o.lt q hq).1;have:=HL7.o;omega))
   clear r8 g8
   refine HK.o _ _ ⟨.inr (by obtain⟨-,-,j2,-⟩:=cells4 R78.o;obtain⟨k0,k1,k2,k3⟩:=cells4 R88.o;exact⟨j2,k0,k1,k2,k3⟩),?_⟩
   clear HK K
   try simp only [Act.put]
   refine bLc [10] 14 (by kernel_rfl) (fun _ _ _ _ _ h=>h) (by obtain⟨-,-,j2,-⟩:=cells4 R78.o;obtain⟨k0,k1,k2,k3⟩:=cells4 R88.o;exact⟨j2,k0,k1,k2,k3⟩) ?_
   repeat (refine tNc (v:=?_) rfl (by rfl) ?_ ?_;rotate_left;(· (intro w' hSw;(try dsimp only at hSw);obtain⟨hs0,hs1,hs2,hs3,hs4⟩:=hSw;go_simp<;>with_reducible rfl));try simp only [Act.put,lzA,lzB,lzC,lzD,lzE,lzF])
   refine tEc ?_
   refine bOc 11 (by kernel_rfl) rfl ?_
   intro K HK
   refine wanted_go rfl ?_
   try simp only [lzA,lzB,lzC]
   refine wp_store_cell (.tmp 39) (.tmp 37) (v:=.int .i64 (h.next+1)) (new:=#[.slice ag h.log.length cg,.int .i64 h.boot,.int .i64 (h.next+1),.slice a9 (L.length+1) c9]) rfl rfl (by rfl) (by rfl) R78.o info_int1 (by simp) (by rfl) (by rfl) ?_
   intro w9 r9 g9
   refine HK.o _ _ ⟨.inl (by decide),?_⟩
   clear HK K
   try simp only [Act.put]
   refine bDc (by kernel_rfl) ?_
   go_wp2
   go_meet
   case rel=>
    obtain⟨k0,k1,k2,k3⟩:=cells4 (row_by R88.o g9 (fun e=>NE78.o (Option.some.inj e)))
    exact⟨a9,c9,r9,HR8.o.box g9,⟨k0,k1,k2,k3,HDI.o,(O88.o.kept g9 (off_of fun q hq=>by have:=(O8.o.lt q hq).1;have:=HL7.o;omega)).slc (by decide) (fun _ _ e=>by cases e) fun _ _=>rfl,Sl.nil _ _⟩⟩
 case rest=>
 obtain⟨a9,c9,r9,hr9,hat⟩:=hcut
 obtain⟨w9,rfl⟩:∃y:World,y=wc:=⟨_,rfl⟩
 have R9:=η r9
 have HR9:=η hr9
 have HAT:=η hat
 have R29:=η (row_grow R2.o hr9.grow)
 clear HS HSG r9 hr9 hat
 have HS:Hid (∀W,Grow w9 W→W.cell? ⟨B7,0,none⟩=some (.slice ag h.log.length cg)∧W.cell? ⟨B7,1,none⟩=some (.int .i64 h.boot)∧W.cell? ⟨B7,2,none⟩=some (.int .i64 (h.next+1))∧W.cell? ⟨B7,3,none⟩=some (.slice a9 (L.length+1) c9)):=fun W hW=>cells4 (row_grow R9.o hW)
 go_upto_region 6 with fail
 refine bSc (fun w'=>w'.cell? ⟨B7,0,none⟩=some (.slice ag h.log.length cg)∧w'.cell? ⟨B7,1,none⟩=some (.int .i64 h.boot)∧w'.cell? ⟨B7,2,none⟩=some (.int .i64 (h.next+1))∧w'.cell? ⟨B7,3,none⟩=some (.slice a9 (L.length+1) c9)) [2,3,4] (by kernel_rfl) ?_
 intro wd GD zD
 have ZD:=η zD
 clear zD
 refine bLc [0] 7 (by kernel_rfl) (fun _ _ _ _ _ h=>h) (HS.o _ GD) ?_
 repeat (refine tNc (v:=?_) rfl (by rfl) ?_ ?_;rotate_left;(· (intro w' hSw;(try dsimp only at hSw);obtain⟨hs0,hs1,hs2,hs3⟩:=hSw;go_simp<;>with_reducible rfl));try simp only [Act.put,lzA,lzC,lzD,lzE,lzF])
 refine tEc ?_
 refine bOc 1 (by kernel_rfl) rfl ?_
 intro K HK
 try simp only [lzA,lzB,lzC]
 go_simp
 go_at_call 98
 refine(head_asks (o:=(⟨dd,P,false,[]⟩:Opn)) _ (HAT.o.grow GD) HPR.o).mono ?_
 rintro e w10 ⟨v10,rfl,ho10,hb10⟩
 obtain⟨a10,c10,rfl⟩:=ho10.form
 have HM:=η (OwnC.ovn (by decide) ho10)
 have GM:=η hb10
 have GB:=η (Grow.trans GD hb10)
 clear ho10 hb10
 generalize hms:asksE (⟨dd,P,false,[]⟩:Opn)=ms at*
 have HMS:=η hms
 clear hms
 refine HK.o _ _ ⟨.inr (HS.o _ GB.o),?_⟩
 clear HK K
 try simp only [Act.put,lzA,lzB,lzC,lzD,lzE,lzF]
 refine bOc 2 (by kernel_rfl) rfl ?_
 intro K HK
 refine wanted_go rfl ?_
 try simp only [lzA,lzB,lzC]
 refine wp_store_row (.tmp 4) (.tmp 40) rfl rfl rfl (row_grow R29.o GB.o) info_hd rfl rfl ?_
 intro w7 r7 g7
 obtain⟨p0,p1,p2,p3⟩:=cells4 r7
 refine HK.o _ _ ⟨.inl (by decide),?_⟩
 clear HK K
 try simp only [Act.put]
 refine bOc 3 (by kernel_rfl) rfl ?_
 intro K HK
 try simp only [lzA,lzB,lzC]
 go_simp
 refine HK.o _ _ ⟨.inl (by decide),?_⟩
 clear HK K
 try simp only [Act.put,lzA,lzB,lzC,lzD,lzE,lzF]
 refine bOc 4 (by kernel_rfl) rfl ?_
 intro K HK
 try simp only [lzA,lzB,lzC]
 go_simp
 refine HK.o _ _ ⟨.inl (by decide),?_⟩
 clear HK K
 try simp only [Act.put,lzA,lzB,lzC,lzD,lzE,lzF]
 refine bDc (by kernel_rfl) ?_
 go_wp2
 refine bodyPost_ret (v:=.tuple #[.agg #[.slice ag h.log.length cg,.int .i64 h.boot,.int .i64 (h.next+1),.slice a9 (L.length+1) c9],.slice a10 ms.length c10,.int .i64 0]) (by simp [results,Tryz.results67,go_sem,p0,p1,p2,p3]) rfl ?_
 have z:=HZ.o
 have hx:=(HR9.o.later GB.o).past G1.o g7 (by omega)
 have hy:=hx.of HIB.o.1 HNI.o
 rw [List.map_append,HL.o] at hy
 rw [HE1.o,HE2.o,HE3.o]
 have e9:newO h P=(⟨dd,P,false,[]⟩:Opn):=by unfold newO;rw [HDD.o]
 rw [e9,HMS.o]
 have hgm:=HR9.o.grow.size;have:=GD.size
 exact⟨_,_,rfl,by simpa using hy,HM.o.mono (ovn_set (G1.o.trans (HR9.o.grow.trans GD)) (by omega) g7 GM.o),hx.grow⟩
theorem fr_to_ov {w0 w W wf:World} {X:List (Option Nat)} (h:w0.heap.size≤w.heap.size) (hb:∀k,k<W.heap.size→w.heap.size≤k→some k∉X→wf.heap[k]? =W.heap[k]?):Sub (fr w W X) (ov (fun _=>none) w0 wf):=fun a v e=>by
 have hlt:=World.block_lt_of_cell? W a (fr_sub _ _ _ _ _ e)
 unfold fr at e
 split at e
 ·cases e
 ·rename_i hn
  have h1:¬a.block<w.heap.size:=fun hx=>hn (.inl hx)
  rw [ov_new (by omega),World.cell?_of_block (hb a.block hlt (by omega) (fun hx=>hn (.inr hx)))]
  exact e
section
variable {w W:World} {B:Nat} {vl vo:Value} {lg:List Rc} {L:List OpH}
theorem HR.sub2 (_:HR w W B vl vo lg L):Sub (fr w W (hro B vl vo L)) (fr w W [some B,vo.ownBlock]):=fr_step fun k _ _ hx=>⟨rfl,fun hm=>hx (by
 simp only [List.mem_cons,List.not_mem_nil,or_false] at hm
 unfold hro
 simp only [List.mem_cons]
 rcases hm with h|h
 ·exact .inl h
 ·exact .inr (.inr (.inl h)))⟩
theorem HR.no2 (b:HR w W B vl vo lg L) {i:Nat} {v:Value} (hi:(hro B vl vo L)[i]? =some v.ownBlock) (h0:i≠0) (h2:i≠2) {q:Nat} (hq:v.ownBlock=some q):some q∉ [some B,vo.ownBlock]:=by
 simp only [List.mem_cons,List.not_mem_nil,or_false,not_or]
 rw [hq] at hi
 refine⟨fun e=>?_,fun e=>?_⟩
 ·rcases b.ok.off hi (j:=0) rfl h0 with h|h
  ·cases h
  ·exact h e
 ·rcases b.ok.off hi (j:=2) rfl h2 with h|h
  ·cases h
  ·exact h e
theorem HR.logC (b:HR w W B vl vo lg L):Sl Ty.rc (fr w W [some B,vo.ownBlock]) vl lg:=
 b.log.slb (by decide) b.sub2 fun a ha=>fr_new (b.log.lt _ ha).1 (b.no2 (i:=1) rfl (by decide) (by decide) ha)
theorem HR.opnC (b:HR w W B vl vo lg L):OwnC Ty.opn (fr w W [some B,vo.ownBlock]) W w.heap.size 147 vo (L.map (·.1)):=
 b.opn.of_oph b.sub2 fun x hx=>by
  obtain⟨i,hi,rfl⟩:=List.mem_iff_getElem.1 hx
  exact(b.heard _ hx).slb (by decide) (fun a v e=>by cases e) fun a ha=>fr_new ((b.heard _ hx).lt _ ha).1 (b.no2 (HR.at_heard (List.getElem?_eq_getElem hi)) (by omega) (by omega) ha)
end
theorem quit_tells (w:World) (row:Option Nat) (l:List Opn):TellsG Tryz.prog Ty.opn aggOf w row 78 #[] l (fun o=>!o.dec) where
 ent:=fun args w=>by kernel_rfl
 say:=fun wx cs x hg _ hR=>by
  obtain⟨vp,vh,rfl,-,hp,hh⟩:=hR
  obtain⟨ap,cp,rfl,-⟩:=hp
  obtain⟨ah,ch,rfl,-⟩:=hh
  show Calls _ _ #[.agg #[.int .i64 x.deed,.slice ap x.parts.length cp,.bool x.dec,.slice ah x.heard.length ch]] _ _
  go_enter Tryz.func78,Tryz.ntmps78
  go_wp2
  go_ret
  exact⟨rfl,grA⟩
set_option maxRecDepth 100000 in
set_option maxHeartbeats 4000000 in
theorem whead_quit {v:Value} {h:Hd} (w:World) (hv:Of Ty.hd w.cell? v h) (hk:HdOk h) (hlp:∀r∈h.log,r.parts.length*24≤140737488355328) (hr:∀o∈h.opn,PtsR o.parts):
  Calls Tryz.prog 42 #[v] w fun e w'=>∃v1 v2,e=.returned (.tuple #[v1,v2])∧Of Ty.hd (ov (fun _=>none) w w') v1 (quitH h)∧Sl Ty.ms (ov (fun _=>none) w w') v2 (quitM h)∧Grow w w':=by
 obtain⟨al,cl,ar,cr,rfl⟩:=hv.hd_form
 obtain⟨ar',cr',he,h1,h2,-,hel⟩:=(Of.hd_log hv).2
 obtain⟨rfl,rfl⟩:ar=ar'∧cr=cr':=by simpa using he
 unfold maxLen at h2
 have HIB:Hid (I64 h.boot∧I64 h.next):=η (by obtain⟨cs,he,_,_,rfl,_,h1,h2,_⟩:=hv;exact⟨h1,h2⟩)
 have HOW:=η (fun(W:World) (hW:Grow w W)=>head_own W (hv.mono hW.sub) hk hlp)
 have HPR:=η hr
 have h12:=hk.opn
 clear hk hv hlp he hr
 obtain⟨wa,hwa⟩:∃y:World,y=w.alloc (.cells #[.slice al h.log.length cl,.int .i64 h.boot,.int .i64 h.next,.slice ar h.opn.length cr] 35):=⟨_,rfl⟩
 obtain⟨wz,hwz⟩:∃y:World,y=wa.alloc (.cells #[.slice none 0 0,.int .i64 0,.int .i64 0,.slice none 0 0] 35):=⟨_,rfl⟩
 have hsz:wa.heap.size=w.heap.size+1:=by rw [hwa];simp
 have R1:Hid (wz.heap[w.heap.size]? =some (.cells #[.slice al h.log.length cl,.int .i64 h.boot,.int .i64 h.next,.slice ar h.opn.length cr] 35 (0,0))):=η (by rw [hwz,hwa];exact heap_later (row_new _ _) _)
 have R2:Hid (wz.heap[w.heap.size+1]? =some (.cells #[.slice none 0 0,.int .i64 0,.int .i64 0,.slice none 0 0] 35 (0,0))):=η (by rw [hwz,←hsz];exact row_new _ _)
 have G1:Hid (Grow w wz):=η (by rw [hwz,hwa];exact((Grow.refl w).alloc _).alloc _)
 have HZ:Hid (wz.heap.size=w.heap.size+2):=η (by rw [hwz,hwa];simp)
 go_enter Tryz.func42,Tryz.ntmps42
 go_upto_region 1 with fail
 rw [←hwa]
 try rw [hsz]
 rw [←hwz]
 clear hwa hwz hsz
 obtain⟨c0,c1,c2,c3⟩:=cells4 R1.o
 have z1:w.heap.size<wz.heap.size:=(γ R1.o)
 go_wp2_with fail
 refine(HOW.o _ G1.o).mono ?_
 rintro e w1 ⟨vl,vo,B0,L,rfl,hl,hr0⟩
 obtain⟨ag,cg,ao,co,rfl,rfl⟩:=hr0.form
 have HL:=η hl
 have HR0:=η hr0
 clear hr0 hl c0 c1 c2 c3 z1
 obtain⟨w2,hw2⟩:∃y:World,y=w1.alloc (.cells #[.slice ag h.log.length cg,.int .i64 h.boot,.int .i64 h.next,.slice ao L.length co] 35):=⟨_,rfl⟩
 obtain⟨B7,hB7⟩:∃y,y=w1.heap.size:=⟨_,rfl⟩
 have R7:Hid (w2.heap[B7]? =some (.cells #[.slice ag h.log.length cg,.int .i64 h.boot,.int .i64 h.next,.slice ao L.length co] 35 (0,0))):=η (by rw [hw2,hB7];exact row_new _ _)
 have HRR:Hid (HR wz w2 B7 (.slice ag h.log.length cg) (.slice ao L.length co) h.log L):=η (HR0.o.rebox (by rw [hw2];exact(Grow.refl _).alloc _) (by omega) (by rw [hw2,hB7];simp))
 have R12:=η (row_grow R1.o HRR.o.grow)
 have GW2:=η (G1.o.trans HRR.o.grow)
 go_upto_region 3 with fail
 rw [←hw2,←hB7]
 clear hw2 hB7
 obtain⟨c0,c1,c2,c3'⟩:=cells4 R12.o
 have z1:w.heap.size<w2.heap.size:=(γ R12.o)
 go_wp2
 clear c0 c1 c2 c3' z1
 go_loopw [5,13] (fun s5 i wr=>∃k:Nat,k≤h.opn.length∧i=.int .i64 k∧Grow w2 wr∧OwnC Ty.ms (fun _=>none) wr w2.heap.size 95 s5 (((h.opn.take k).filter fun o=>!o.dec).flatMap fun o=>abortsE o.deed o.parts)) (fun _ i _=>h.opn.length - (intOf i).toNat)
 case atStart=>exact⟨0,by omega,rfl,Grow.refl _,OwnC.nil _ _ _ _ _⟩
 case round=>
  obtain⟨k,hk',rfl,hb,hown⟩:=hrel
  by_cases hlt:k<h.opn.length
  ·obtain⟨b,o,vp,vh,rfl,c0,c1,c2,c3,i0,hP,hH⟩:=Opns.at_ hel k hlt
   obtain⟨ap,cp,rfl,-⟩:=id hP
   obtain⟨ah,ch,rfl,-⟩:=id hH
   have GW:=η (GW2.o.trans hb)
   have HAB:=η (fun(W:World) (hW:Grow w W)=>head_aborts (d:=h.opn[k].deed) W (hP.mono hW.sub) i0 (HPR.o _ (List.getElem_mem hlt)))
   have HFM:=η (fflat_next (fun o:Opn=>!o.dec) (fun o=>abortsE o.deed o.parts) hlt)
   have HL5:=η (show(((h.opn.take k).filter fun o=>!o.dec).flatMap fun o=>abortsE o.deed o.parts).length≤36 by
    have h8:=flat_short (fun o:Opn=>aborts_short o.deed o.parts) ((h.opn.take k).filter fun o=>!o.dec)
    have h9:((h.opn.take k).filter fun o=>!o.dec).length≤12:=Nat.le_trans (List.length_filter_le _ _) (by simp;omega)
    omega)
   have HAL:=η (aborts_short h.opn[k].deed h.opn[k].parts)
   have HOWN:=η hown
   have HB:=η hb
   obtain⟨av,cv,rfl⟩:=hown.form
   replace c0:=GW.o.sub _ _ c0
   replace c1:=GW.o.sub _ _ c1
   replace c2:=GW.o.sub _ _ c2
   replace c3:=GW.o.sub _ _ c3
   clear hel hP hH hown hb i0
   generalize h.opn[k]=q at*
   generalize ((h.opn.take k).filter fun o=>!o.dec).flatMap (fun o=>abortsE o.deed o.parts)=ms at*
   obtain⟨t,ht⟩:∃t,t=q.dec:=⟨_,rfl⟩
   rw [←ht] at c2 HFM
   clear ht
   cases t with
   |true=>
    have HF:=η HFM.o
    rw [if_neg (by simp)] at HF
    clear HFM
    go_wp2
    go_roundw
    case rel=>exact⟨k+1,by omega,by go_num,HB.o.alloc _,by rw [HF.o];exact HOWN.o.grow ((Grow.refl _).alloc _)⟩
    case measure=>simp [intOf];omega
   |false=>
    have HF:=η HFM.o
    rw [if_pos (by simp)] at HF
    clear HFM
    go_wp2_with fail
    refine(HAB.o _ (GW.o.alloc _)).mono ?_
    rintro e w4 ⟨v4,rfl,ho4,hb4⟩
    obtain⟨a4,c4,rfl⟩:=ho4.form
    have G4:=η (((Grow.refl wr).alloc _).trans hb4)
    have HSR:Hid (Src Ty.ms (fun _=>none) w4 (.slice a4 (abortsE q.deed q.parts).length c4) (abortsE q.deed q.parts)):=η ho4.srcA
    have HO4:=η (HOWN.o.grow G4.o)
    clear ho4 hb4 c0 c1 c2 c3
    generalize abortsE q.deed q.parts=aq at*
    go_wp2_with (first|(at_builtin;refine wpList_appc (c:=fun _=>none) (base:=w2.heap.size) (l:=ms) (m:=aq) ei_ms rfl one_Tms (by decide) rfl (.tmp 20) (.tmp 25) rfl rfl HO4.o rfl HSR.o ?d2 ?d3 ?_))
    case d2=>have:=HL5.o;have:=HAL.o;omega
    case d3=>have:=HB.o.size;have:=G4.o.size;omega
    intro a9 c9 w9 ho9 hg9 hb9
    have HG9:Hid (Grow w2 w9):=η (grow_by (w0:=w2) (HB.o.trans G4.o) hg9 (fun q hq=>(HOWN.o.lt q hq).1))
    have HO9:=η ho9
    clear ho9 hg9 hb9
    go_wp2
    go_roundw
    case rel=>exact⟨k+1,by omega,by go_num,HG9.o,by rw [HF.o];exact HO9.o⟩
    case measure=>simp [intOf];omega
  ·have HF2:Hid (((h.opn.take k).filter fun o=>!o.dec).flatMap (fun o=>abortsE o.deed o.parts)=quitM h):=η (by rw [List.take_of_length_le (by omega)];rfl)
   have HOWN:=η hown
   have HB:=η hb
   have HRL:=η (HRR.o.later hb)
   have R7L:=η (row_grow R7.o hb)
   have R2L:=η (row_grow R2.o HRL.o.grow)
   obtain⟨av,cv,rfl⟩:=hown.form
   clear hel hown hb
   generalize ((h.opn.take k).filter fun o=>!o.dec).flatMap (fun o=>abortsE o.deed o.parts)=ms at*
   obtain⟨d0,d1,d2,d3⟩:=cells4 R7L.o
   have z7:B7<wr.heap.size:=(γ R7L.o)
   have zr:w.heap.size+1<wr.heap.size:=(γ R2L.o)
   go_wp2_with fail
   refine(deleteFunc_opn_c (p:=fun o=>!o.dec) (c:=fr wz wr [some B7,(Value.slice ao L.length co).ownBlock]) ?_ HRL.o.opnC (quit_tells _ _ _)).mono ?_
   ·intro a u e
    unfold fr at e
    split at e
    ·cases e
    ·rename_i hn
     unfold frag
     rw [if_neg (fun e=>hn (.inr (by simp [e])))]
     exact e
   rintro e w7 ⟨v7,rfl,ho7,hg7,hb7⟩
   obtain⟨a7,c7,rfl⟩:=ho7.form
   have hne:some B7≠(Value.slice ao L.length co).ownBlock:=by
    rcases HRL.o.ok.off (i:=0) (j:=2) rfl rfl (by decide) with e|e
    ·exact absurd e (by simp)
    ·exact e
   have R77:=η (row_by R7L.o hg7 hne)
   have R27:=η (row_by R2L.o hg7 (fun e=>by have:=(HRL.o.opn.lt _ e.symm).1;have:=HZ.o;omega))
   have HG7:=η hg7
   have HO7:=η ho7
   have HLF:Hid ((L.map (·.1)).filter (fun x=>!(fun o:Opn=>!o.dec) x)=(quitH h).opn):=η (by rw [HL.o];simp [quitH])
   have HB7:=η hb7
   clear d0 d1 d2 d3 z7 zr hg7 ho7 hb7 hne
   rw [HLF.o] at HO7
   rw [HLF.o]
   go_wp2_with (first|(refine wpList_store_cell rfl (.tmp 31) (.tmp 30) (v:=.slice a7 (quitH h).opn.length c7) (new:=#[.slice ag h.log.length cg,.int .i64 h.boot,.int .i64 h.next,.slice a7 (quitH h).opn.length c7]) rfl rfl (by rfl) (by rfl) R77.o info_opns (by simp) (by rfl) (by rfl) ?_))
   intro w8 r8 g8
   have R28:=η (row_by R27.o g8 (fun e=>by have:=Option.some.inj e;have:=HRL.o.ok.lt B7 (by simp [hro]);have:=HZ.o;omega))
   have HG8:=η g8
   have R78:=η r8
   clear r8 g8
   obtain⟨d0,d1,d2,d3⟩:=cells4 R78.o
   have z7:B7<w8.heap.size:=(γ R78.o)
   go_wp2_with (first|(refine wpList_store_row rfl (.tmp 2) (.tmp 32) rfl rfl rfl R28.o info_hd rfl rfl ?_))
   intro wf rf gf
   obtain⟨p0,p1,p2,p3⟩:=cells4 rf
   go_wp2
   refine bodyPost_ret (v:=.tuple #[.agg #[.slice ag h.log.length cg,.int .i64 h.boot,.int .i64 h.next,.slice a7 (quitH h).opn.length c7],.slice av ms.length cv]) (by simp [results,Tryz.results42,go_sem,p0,p1,p2,p3]) rfl ?_
   have z2:=HZ.o
   have z3:=HG7.o.size
   have z4:=HG8.o.size
   have z5:=gf.size
   have z6:=HRL.o.ok.lt B7 (by simp [hro])
   have z8:=HRL.o.opn.lt
   have hbk:∀k,k<wr.heap.size→wz.heap.size≤k→some k∉ [some B7,(Value.slice ao L.length co).ownBlock]→wf.heap[k]? =wr.heap[k]?:=fun k h1 h2 h3=>by
    simp only [List.mem_cons,List.not_mem_nil,or_false,not_or] at h3
    rw [gf.block k (by omega) (fun e=>by have:=Option.some.inj e;omega),HG8.o.block k (by omega) h3.1,HG7.o.block k h1 h3.2]
   have sub:=fr_to_ov (w0:=w) (by omega) hbk
   have hro7:OwnC Ty.opn (ov (fun _=>none) w wf) wf wz.heap.size 147 (.slice a7 (quitH h).opn.length c7) (quitH h).opn:=(HO7.o.mono sub).block fun q hq=>by
    have hq1:=(HO7.o.lt q hq)
    have hb8:(Value.slice a7 (quitH h).opn.length c7).ownBlock=(Value.slice ao L.length co).ownBlock:=by cases a7<;>exact HB7.o
    rw [hb8] at hq
    have h9:=z8 q hq
    rw [gf.block q (by omega) (fun e=>by have:=Option.some.inj e;omega),HG8.o.block q (by omega) (fun e=>by
     have e2:=Option.some.inj e
     rcases HRL.o.ok.off (i:=0) (j:=2) rfl rfl (by decide) with e3|e3
     ·exact absurd e3 (by simp)
     ·exact e3 (by rw [←e2];exact hq.symm))]
   have hms:OwnC Ty.ms (fun _=>none) wf w2.heap.size 95 (.slice av ms.length cv) ms:=HOWN.o.block fun q hq=>by
    have hq1:=HOWN.o.lt q hq
    have zz:=HRR.o.ok.lt B7 (by simp [hro])
    rw [gf.block q (by omega) (fun e=>by have:=Option.some.inj e;omega),HG8.o.block q (by omega) (fun e=>by have:=Option.some.inj e;omega),HG7.o.block q hq1.2 (fun e=>by have:=(HRR.o.opn.lt q e.symm).2;omega)]
   have zg:=HRR.o.grow.size
   have hgr:Grow w wf:=((((GW2.o.trans HB.o).grown HG7.o (fun q hq=>by have:=(z8 q hq).1;omega)).grown HG8.o (fun q hq=>by have:=Option.some.inj hq;omega)).grown gf (fun q hq=>by have:=Option.some.inj hq;omega))
   rw [←HF2.o]
   exact⟨_,_,rfl,⟨_,rfl,_,_,rfl,HRL.o.logC.mono sub,HIB.o.1,HIB.o.2,hro7.slc (by decide) (Sub.refl _) fun a ha=>ov_new (by omega)⟩,hms.slc (by decide) (fun _ _ e=>by cases e) fun a ha=>ov_new (by omega),hgr⟩
theorem HR.opn_len {w W:World} {B:Nat} {vl:Value} {lg:List Rc} {L:List OpH} {g cap k:Nat} {x:OpH} (b:HR w W B vl (.slice (some ⟨g,0,none⟩) L.length cap) lg (L.set k x)):OwnC Ty.oph (fr w W (hro B vl (.slice (some ⟨g,0,none⟩) L.length cap) (L.set k x))) W w.heap.size 147 (.slice (some ⟨g,0,none⟩) (L.set k x).length cap) (L.set k x):=by
 rw [List.length_set];exact b.opn
theorem HR.free {w W:World} {B:Nat} {vl:Value} {lg:List Rc} {L:List OpH} {g n cap:Nat} (b:HR w W B vl (.slice (some ⟨g,0,none⟩) n cap) lg L) (p:Nat):W.frozen? ⟨g,p,none⟩=false:=by
 obtain⟨css,⟨-,⟨h,-⟩|⟨g',cap',cur,he,hg,hrow,-⟩⟩,-,-⟩:=b.opn
 ·cases h
 ·simp only [Value.slice.injEq,Option.some.injEq,Addr.mk.injEq,and_true] at he
  obtain⟨rfl,-⟩:=he
  simp [World.frozen?,hrow]
def HdPost (wz w:World) (B k:Nat) (boot next:Int) (lg:List Rc) (l:List Opn) (r:List Opn×List Rc×List Ms) (v':Value) (w':World):Prop:=
 ∃vl' vo' L',w'.heap[B]? =some (.cells #[vl',.int .i64 boot,.int .i64 next,vo'] 35 (0,0))∧HR wz w' B vl' vo' (lg++r.2.1) L'∧L'.map (·.1)=l.take k++(r.1++l.drop (k+1))∧Sl Ty.ms (ov (fun _=>none) w w') v' r.2.2∧w.heap.size≤w'.heap.size
def yesO (o:Opn) (n:Int):List Opn×List Rc×List Ms:=
 if o.dec=false∧n∈housesE o.parts∧n∉o.heard then
  (if o.heard.length+1=(housesE o.parts).length then([⟨o.deed,o.parts,true,[]⟩],[⟨5,o.deed,o.parts⟩],asksE ⟨o.deed,o.parts,true,[]⟩)
  else([⟨o.deed,o.parts,o.dec,o.heard++ [n]⟩],[],[]))
 else([o],[],[])
set_option maxRecDepth 100000 in
set_option maxHeartbeats 4000000 in
theorem head_yes {wz:World} (w:World) {B k:Nat} {vl vo:Value} {lg:List Rc} {L:List OpH} {x:OpH} {boot next house:Int} (hr:HR wz w B vl vo lg L) (hrow:w.heap[B]? =some (.cells #[vl,.int .i64 boot,.int .i64 next,vo] 35 (0,0))) (hk:L[k]? =some x) (hp:PtsR x.1.parts) (hh:I64 house) (hlg:lg.length≤100000) (_:L.length≤12) (h3:x.1.heard.length≤3)
  (hle:house∈housesE x.1.parts→house∉x.1.heard→x.1.heard.length+1≤(housesE x.1.parts).length):
  Calls Tryz.prog 105 #[.pointer (some ⟨B,0,none⟩),.int .i64 k,.int .i64 house] w fun e w'=>∃v',e=.returned v'∧HdPost wz w B k boot next lg (L.map (·.1)) (yesO x.1 house) v' w':=by
 obtain⟨q,xv⟩:=x
 dsimp only at hp h3 hle ⊢
 obtain⟨al,cl,ao,co,rfl,rfl⟩:=hr.form
 have hkl:=(List.getElem?_eq_some_iff.1 hk).1
 obtain⟨g,vp,rfl,hg1,hg2,c0,c1,c2,c3,i0,hP,hH⟩:=hr.at_ rfl hk
 obtain⟨ap,cp,rfl,-⟩:=id hP
 dsimp only at c0 c1 c2 c3 i0 hP hH
 obtain⟨ah,ch,rfl⟩:=hH.form
 have HPs:=η (hP.mono (fr_sub _ _ _))
 have HHs:Hid (Sl Ty.int w.cell? (.slice ah q.heard.length ch) q.heard):=η (hH.slc (by decide) (fun _ _ e=>by cases e) fun _ _=>rfl)
 have HIN:=η (fun(W:World) (hW:Grow w W)=>contains_int (n:=house) W (HHs.o.mono hW.sub))
 have HHO:=η (fun(W:World) (hs:Sl Ty.pt W.cell? (.slice ap q.parts.length cp) q.parts)=>part_houses W hs (by have:=hp.len;omega) hp.ne hp.lt)
 have HLE:=η hle
 have HRR:=η hr
 have HK:=η hk
 have HKL:=η hkl
 have HI0:=η i0
 have HIH:=η hh
 have HPP:=η hP
 have HHH:=η hH
 have HPR:=η hp
 have HRW:=η hrow
 have HTK:Hid ((L.map (·.1)).take k++([q]++(L.map (·.1)).drop (k+1))=L.map (·.1)):=η (by
  have e:(L.map (·.1))[k]? =some q:=by rw [List.getElem?_map,hk];rfl
  have hk2:k<(L.map (·.1)).length:=by simpa using hkl
  have e2:(L.map (·.1))[k]=q:=(List.getElem?_eq_some_iff.1 e).2
  rw [←e2,List.singleton_append,←List.drop_eq_getElem_cons hk2,List.take_append_drop])
 obtain⟨b0,b1,b2,b3⟩:=cells4 hrow
 have zB:B<w.heap.size:=(γ hrow)
 clear hp hle hr hk i0 hh hP hH hrow
 obtain⟨t,ht⟩:∃t,t=q.dec:=⟨_,rfl⟩
 rw [←ht] at c2
 have HT:=η ht
 clear ht
 cases t with
 |true=>
  have HF:Hid (yesO q house=([q],[],[])):=η (by unfold yesO;rw [if_neg (by rw [←HT.o];simp)])
  go_enter Tryz.func105,Tryz.ntmps105
  go_wp2
  go_ret
  exact⟨_,rfl,_,_,L,HRW.o,by rw [HF.o,List.append_nil];exact HRR.o,by rw [HF.o];exact HTK.o.symm,by rw [HF.o];exact Sl.nil _ _,Nat.le_refl _⟩
 |false=>
  by_cases hn:house∈q.heard
  ·have hnb:decide (house∈q.heard)=true:=decide_eq_true hn
   have HF:Hid (yesO q house=([q],[],[])):=η (by unfold yesO;rw [if_neg (by simp [hn])])
   clear hn
   go_enter Tryz.func105,Tryz.ntmps105
   go_wp2_with fail
   refine(HIN.o _ (Grow.refl _)).mono ?_
   rintro e w1 ⟨rfl,hb1⟩
   have G1:=η hb1
   rw [hnb]
   clear hb1 hnb c0 c1 c2 c3 b0 b1 b2 b3
   go_wp2
   go_ret
   exact⟨_,rfl,_,_,L,row_grow HRW.o G1.o,by rw [HF.o,List.append_nil];exact HRR.o.later G1.o,by rw [HF.o];exact HTK.o.symm,by rw [HF.o];exact Sl.nil _ _,(G1.o).size⟩
  have hnb:decide (house∈q.heard)=false:=decide_eq_false hn
  have HNN:=η hn
  clear hn
  by_cases hm:house∈housesE q.parts
  ·have HMM:=η hm
   have hmb:decide (house∈housesE q.parts)=true:=decide_eq_true hm
   have HLN:=η (HLE.o hm HNN.o)
   clear hm
   go_enter Tryz.func105,Tryz.ntmps105
   go_wp2_with fail
   refine(HIN.o _ (Grow.refl _)).mono ?_
   rintro e w1 ⟨rfl,hb1⟩
   have G1:=η hb1
   rw [hnb]
   replace c1:=hb1.sub _ _ c1
   clear hb1 hnb c0 c2 c3 b0 b1 b2 b3
   go_wp2_with fail
   refine(HHO.o _ (HPs.o.mono G1.o.sub)).mono ?_
   rintro e w2 ⟨v2,rfl,ho2,hb2⟩
   obtain⟨a2,c2',rfl⟩:=owns_form ho2
   have HI2:=η (ints_of ho2 (houses_ok q.parts))
   have G2:=η (G1.o.trans hb2)
   clear ho2 hb2 c1
   go_wp2_with fail
   refine(contains_int (n:=house) _ HI2.o).mono ?_
   rintro e w3 ⟨rfl,hb3⟩
   have G3:=η (G2.o.trans hb3)
   rw [hmb]
   clear hb3 hmb HI2
   have HR3:=η (HRR.o.later G3.o)
   have RB3:=η (row_grow HRW.o G3.o)
   obtain⟨g',vp',e1,-,zg,c0,c1,c2,c3,-,hp3,-⟩:=HR3.o.at_ rfl HK.o
   obtain rfl:g=g':=by simpa using e1
   dsimp only at c0 c2 c3
   have sf:=HR3.o.free
   clear e1 hp3 c1 c2 c0
   go_wp2_with (first|(at_builtin;refine wpList_appc (c:=fun _=>none) (base:=wz.heap.size) (l:=q.heard) (m:=[house]) (v:=.slice ah q.heard.length ch) ei_int rfl one_Tint (by decide) rfl (.tmp 40) (.tmp 42) rfl rfl ?own rfl (Src.of_new (T:=Ty.int) (x:=house) (cs:=#[.int .i64 house]) ⟨rfl,HIH.o⟩ _ _ ?d1) ?d2 ?d3 ?_))
   case own=>exact HHH.o.grow (G3.o.alloc _)
   case d1=>first|rfl|simp
   case d2=>simp;omega
   case d3=>have:=HR3.o.grow.size;simp;omega
   intro a5 c5 w5 ho5 hg5 hb5
   have HG5:=η hg5
   have HR3a:=η (HR3.o.later ((Grow.refl _).alloc (.cells #[.int .i64 house] 3)))
   have hoff:=HR3a.o.ok.off (HR.at_heard HK.o) (j:=2) rfl (by omega)
   have hgne:some g≠(Value.slice ah q.heard.length ch).ownBlock:=fun e=>by
    rcases hoff with h|h
    ·rw [h] at e;cases e
    ·exact h e.symm
   have RB5:=η (row_by (row_grow RB3.o ((Grow.refl _).alloc (.cells #[.int .i64 house] 3))) hg5 (fun e=>by
    have h9:=HR3a.o.ok.off (HR.at_heard HK.o) (j:=0) rfl (by omega)
    rcases h9 with h|h
    ·rw [h] at e;cases e
    ·exact h e.symm))
   have HNX:=η (HR.hear HR3a.o rfl HK.o (W2:=w5) (v':=.slice a5 (q.heard.length+1) c5) (l':=q.heard++ [house]) hg5 (hb5.imp_right fun⟨g,e,hge⟩=>⟨g,e,by simpa using hge⟩) ho5).1
   have e3:w5.cell? ⟨g,k*4+3,none⟩=some (.slice ah q.heard.length ch):=by
    rw [World.cell?_of_block (a:=⟨g,k*4+3,none⟩) (hg5.block g (by simp;omega) hgne)]
    exact((Grow.refl w3).alloc _).sub _ _ c3
   have ef:∀p,w5.frozen? ⟨g,p,none⟩=false:=fun p=>by
    rw [World.frozen?_of_block (a:=⟨g,p,none⟩) (hg5.block g (by simp;omega) hgne)]
    exact HR3a.o.free p
   have zg5:g<w5.heap.size:=World.block_lt_of_cell? _ _ e3
   clear sf ho5 hg5 hb5 c3 zg hoff hgne
   go_upto_region 5 with fail
   obtain⟨w6,hw6⟩:∃y:World,y=w5.setCell ⟨g,k*4+3,none⟩ (.slice a5 (q.heard.length+1) c5):=⟨_,rfl⟩
   rw [←hw6] at HNX ⊢
   have RB6:Hid (w6.heap[B]? =some (.cells #[.slice al lg.length cl,.int .i64 boot,.int .i64 next,.slice (some ⟨g,0,none⟩) L.length co] 35 (0,0))):=η (row_by RB5.o (by rw [hw6];exact grownBy_setCell w5 ⟨g,k*4+3,none⟩ _) (fun e=>by
    rcases HRR.o.ok.off (i:=0) (j:=2) rfl rfl (by decide) with h|h
    ·cases h
    ·exact h e))
   have HZ6:Hid (w.heap.size≤w6.heap.size):=η (by rw [hw6];have:=G3.o.size;have:=HG5.o.size;simp at*;omega)
   clear hw6 e3 ef zg5
   have HK6:Hid ((L.set k (⟨q.deed,q.parts,q.dec,q.heard++ [house]⟩,Value.slice a5 (q.heard.length+1) c5))[k]? =some (⟨q.deed,q.parts,q.dec,q.heard++ [house]⟩,Value.slice a5 (q.heard.length+1) c5)):=η (List.getElem?_set_self HKL.o)
   have HN6:Hid (HR wz w6 B (.slice al lg.length cl) (.slice (some ⟨g,0,none⟩) L.length co) lg (L.set k (⟨q.deed,q.parts,q.dec,q.heard++ [house]⟩,Value.slice a5 (q.heard.length+1) c5))):=η HNX.o
   clear HNX
   obtain⟨g6,vp6,e6,hg6,zg6,d0,d1,d2,d3,-,hp6,-⟩:=HN6.o.at_ (by simp) HK6.o
   obtain rfl:g=g6:=by simpa using e6
   obtain⟨a6,c6,rfl,-⟩:=id hp6
   dsimp only at d0 d1 d2 d3 hp6
   have HP6:=η (hp6.mono (fr_sub _ _ _))
   have HPF:=η hp6
   have HS:Hid (∀W,Grow w6 W→W.cell? ⟨g,k*4+3,none⟩=some (.slice a5 (q.heard.length+1) c5)∧W.cell? ⟨g,k*4+1,none⟩=some (.slice a6 q.parts.length c6)):=fun W hW=>⟨hW.sub _ _ d3,hW.sub _ _ d1⟩
   have HMP:Hid ((L.set k (⟨q.deed,q.parts,q.dec,q.heard++ [house]⟩,Value.slice a5 (q.heard.length+1) c5)).map (·.1)=(L.map (·.1)).take k++([⟨q.deed,q.parts,q.dec,q.heard++ [house]⟩]++(L.map (·.1)).drop (k+1))):=η (by rw [List.map_set,List.set_eq_take_append_cons_drop,if_pos (by simpa using HKL.o)];rfl)
   clear e6 hg6 zg6 d0 d1 d2 d3 hp6
   by_cases hall:q.heard.length+1=(housesE q.parts).length
   ·have HAL:=η hall
    have hdn:decide (q.heard.length+1<(housesE q.parts).length)=false:=decide_eq_false (by omega)
    have hdi:¬(q.heard.length+1<(housesE q.parts).length):=by omega
    clear hall
    have HHO6:=η (fun(W:World) (hs:Sl Ty.pt W.cell? (.slice a6 q.parts.length c6) q.parts)=>part_houses W hs (by have:=HPR.o.len;omega) HPR.o.ne HPR.o.lt)
    refine bSc (fun w'=>w'.cell? ⟨g,k*4+3,none⟩=some (.slice a5 (q.heard.length+1) c5)∧w'.cell? ⟨g,k*4+1,none⟩=some (.slice a6 q.parts.length c6)) [11] (by kernel_rfl) ?_
    intro wd GD zD
    have ZD:=η zD
    clear zD
    refine bLc [0,1,2,3,4,5,6,7,8] 14 (by kernel_rfl) (fun _ _ _ _ _ h=>h) (HS.o _ GD) ?_
    repeat (refine tNc (v:=?_) rfl (by rfl) ?_ ?_;rotate_left;(· (intro w' hSw;(try dsimp only at hSw);obtain⟨hs0,hs1⟩:=hSw;go_simp<;>with_reducible rfl));try simp only [Act.put,lzA,lzB,lzC,lzD,lzE,lzF])
    refine tEc ?_
    refine bOc 9 (by kernel_rfl) rfl ?_
    intro K HK
    try simp only [lzA,lzB,lzC]
    go_simp
    go_at_call 47
    refine(HHO6.o _ (HP6.o.mono (GD).sub)).mono ?_
    rintro e w8 ⟨v8,rfl,ho8,hb8⟩
    obtain⟨a8,c8,rfl⟩:=owns_form ho8
    have G8:=η (Grow.trans GD hb8)
    clear ho8 hb8
    refine HK.o _ _ ⟨.inr (HS.o _ G8.o),?_⟩
    clear HK K
    try simp only [Act.put,lzA,lzB,lzC,lzD,lzE,lzF]
    refine bLc [10] 14 (by kernel_rfl) (fun _ _ _ _ _ h=>h) (HS.o _ G8.o) ?_
    repeat (refine tNc (v:=?_) rfl (by rfl) ?_ ?_;rotate_left;(· (intro w' hSw;(try dsimp only at hSw);obtain⟨hs0,hs1⟩:=hSw;go_simp<;>with_reducible rfl));try simp only [Act.put,lzA,lzB,lzC,lzD,lzE,lzF])
    refine tEc ?_
    refine bOc 11 (by kernel_rfl) rfl ?_
    intro K HK
    try simp only [lzA,lzB,lzC]
    go_simp
    refine HK.o _ _ ⟨.inl (by decide),?_⟩
    clear HK K
    try simp only [Act.put,lzA,lzB,lzC,lzD,lzE,lzF]
    refine bDc (by kernel_rfl) ?_
    have RB8:=η (row_grow RB6.o G8.o)
    have HN8:=η (HN6.o.later G8.o)
    obtain⟨e0,-,-,-⟩:=cells4 RB8.o
    obtain⟨g7,vp7,e7,-,-,d0,-,-,-,-,-,-⟩:=HN8.o.at_ (by simp) HK6.o
    obtain rfl:g=g7:=by simpa using e7
    dsimp only at d0
    have d1:=(HS.o _ G8.o).2
    have HS7:Hid (∀W,Grow w8 W→W.cell? ⟨B,0,none⟩=some (.slice al lg.length cl)∧W.cell? ⟨g,k*4,none⟩=some (.int .i64 q.deed)∧W.cell? ⟨g,k*4+1,none⟩=some (.slice a6 q.parts.length c6)):=fun W hW=>⟨hW.sub _ _ e0,hW.sub _ _ d0,hW.sub _ _ d1⟩
    clear e7 e0 d0 d1
    go_upto_region 7 with fail
    refine bSc (fun w'=>w'.cell? ⟨B,0,none⟩=some (.slice al lg.length cl)∧w'.cell? ⟨g,k*4,none⟩=some (.int .i64 q.deed)∧w'.cell? ⟨g,k*4+1,none⟩=some (.slice a6 q.parts.length c6)) [19] (by kernel_rfl) ?_
    intro wd GD zD
    have ZD:=η zD
    clear zD
    refine bLc [0,1,2,3,4,5,6,7,8,9,10,11,12] 22 (by kernel_rfl) (fun _ _ _ _ _ h=>h) (HS7.o _ GD) ?_
    repeat (refine tNc (v:=?_) rfl (by rfl) ?_ ?_;rotate_left;(· (intro w' hSw;(try dsimp only at hSw);obtain⟨hs0,hs1,hs2⟩:=hSw;go_simp<;>with_reducible rfl));try simp only [Act.put,lzA,lzB,lzC,lzD,lzE,lzF])
    refine tEc ?_
    refine bOc 13 (by kernel_rfl) rfl ?_
    intro K HK
    try simp only [lzA,lzB,lzC]
    go_simp
    go_at_call 29
    refine(clone_pt _ (HP6.o.mono ((G8.o.trans GD).sub)) (by have:=HPR.o.len;omega)).mono ?_
    rintro e w9 ⟨v9,rfl,ho9,hb9⟩
    obtain⟨a7,c7,rfl⟩:=owns_form ho9
    have HO9:=η (OwnC.pts (c:=fun _=>none) ho9 (Pts.ok HP6.o))
    have G9:=η (Grow.trans GD hb9)
    clear ho9 hb9
    refine HK.o _ _ ⟨.inr (HS7.o _ G9.o),?_⟩
    clear HK K
    try simp only [Act.put,lzA,lzB,lzC,lzD,lzE,lzF]
    refine bLc [14] 22 (by kernel_rfl) (fun _ _ _ _ _ h=>h) (HS7.o _ G9.o) ?_
    repeat (refine tNc (v:=?_) rfl (by rfl) ?_ ?_;rotate_left;(· (intro w' hSw;(try dsimp only at hSw);obtain⟨hs0,hs1,hs2⟩:=hSw;go_simp<;>with_reducible rfl));try simp only [Act.put,lzA,lzB,lzC,lzD,lzE,lzF])
    refine tEc ?_
    refine bOc 15 (by kernel_rfl) rfl ?_
    intro K HK
    try simp only [lzA,lzB,lzC]
    go_simp
    obtain⟨w10,hw10⟩:∃y:World,y=w9.alloc (.cells #[.int .i64 5,.int .i64 q.deed,.slice a7 q.parts.length c7] 81):=⟨_,rfl⟩
    have G10:Hid (Grow w8 w10):=η (by rw [hw10];exact(G9.o).alloc _)
    have HN10:=η (HN6.o.later (G8.o.trans G10.o))
    have HSR:Hid (Src Ty.rc (fr wz w10 (hro B (.slice al lg.length cl) (.slice (some ⟨g,0,none⟩) L.length co) (L.set k (⟨q.deed,q.parts,q.dec,q.heard++ [house]⟩,Value.slice a5 (q.heard.length+1) c5)))) w10 (.slice (some ⟨w9.heap.size,0,none⟩) 1 1) [(⟨5,q.deed,q.parts⟩:Rc)]):=η (by
     have hsl:Sl Ty.pt (fr wz w10 (hro B (.slice al lg.length cl) (.slice (some ⟨g,0,none⟩) L.length co) (L.set k (⟨q.deed,q.parts,q.dec,q.heard++ [house]⟩,Value.slice a5 (q.heard.length+1) c5)))) (.slice a7 q.parts.length c7) q.parts:=(HO9.o.grow (w':=w10) (by rw [hw10];exact(Grow.refl _).alloc _)).slb (by decide) (fun a v e=>by cases e) fun a ha=>by
      have h9:=(HO9.o.lt _ ha).1
      have h8:=GD.size
      have h7:=G8.o.size
      have h6:=HN6.o.grow.size
      exact fr_new (by omega) (fun hm=>by have:=(HN6.o.ok.lt _ hm).2;omega)
     rw [hw10] at hsl ⊢
     exact Src.of_new (T:=Ty.rc) (x:=(⟨5,q.deed,q.parts⟩:Rc)) (cs:=#[.int .i64 5,.int .i64 q.deed,.slice a7 q.parts.length c7]) ⟨_,rfl,(show I64 5 from by unfold I64;decide),HI0.o,hsl⟩ _ _ rfl)
    rw [←hw10]
    clear hw10
    refine HK.o _ _ ⟨.inr (HS7.o _ G10.o),?_⟩
    clear HK K
    try simp only [Act.put,lzA,lzB,lzC,lzD,lzE,lzF]
    refine bOc 16 (by kernel_rfl) rfl ?_
    intro K HK
    refine wanted_go rfl ?_
    try simp only [lzA,lzB,lzC]
    refine wp_appc (c:=(fr wz w10 (hro B (.slice al lg.length cl) (.slice (some ⟨g,0,none⟩) L.length co) (L.set k (⟨q.deed,q.parts,q.dec,q.heard++ [house]⟩,Value.slice a5 (q.heard.length+1) c5))))) (base:=wz.heap.size) (l:=lg) (m:=[(⟨5,q.deed,q.parts⟩:Rc)]) (v:=.slice al lg.length cl) ei_rc rfl one_Trc (by decide) (.tmp 62) (.tmp 73) rfl rfl HN10.o.log rfl HSR.o (by simp;omega) (by have:=HN6.o.grow.size;have:=G8.o.size;have:=G10.o.size;omega) ?_
    intro a9 c9 w11 ho11 hg11 hb11
    have HN11:=η (HN10.o.logs hg11 hb11 ho11)
    have HG11:=η hg11
    have NB:Hid (some B≠(Value.slice al lg.length cl).ownBlock):=η (fun e=>by rcases HN6.o.ok.off (i:=0) (j:=1) rfl rfl (by decide) with h|h;exact absurd h (by simp);exact h e)
    have RB11:=η (row_by (row_grow RB6.o (G8.o.trans G10.o)) hg11 NB.o)
    have NG:Hid (some g≠(Value.slice al lg.length cl).ownBlock):=η (fun e=>by rcases HN6.o.ok.off (i:=2) (j:=1) rfl rfl (by decide) with h|h;exact absurd h (by simp [Value.ownBlock]);exact h e)
    have HS11:Hid (w11.cell? ⟨B,0,none⟩=some (.slice al lg.length cl)∧w11.cell? ⟨g,k*4,none⟩=some (.int .i64 q.deed)∧w11.cell? ⟨g,k*4+1,none⟩=some (.slice a6 q.parts.length c6)):=η (by
     have hs:=HS7.o w10 G10.o
     exact⟨HG11.o.cell hs.1 NB.o,HG11.o.cell hs.2.1 NG.o,HG11.o.cell hs.2.2 NG.o⟩)
    clear ho11 hg11 hb11
    refine HK.o _ _ ⟨.inr (HS11.o),?_⟩
    clear HK K
    try simp only [Act.put,lzD,lzE,lzF]
    refine bLc [17,18] 22 (by kernel_rfl) (fun _ _ _ _ _ h=>h) (HS11.o) ?_
    repeat (refine tNc (v:=?_) rfl (by rfl) ?_ ?_;rotate_left;(· (intro w' hSw;(try dsimp only at hSw);obtain⟨hs0,hs1,hs2⟩:=hSw;go_simp<;>with_reducible rfl));try simp only [Act.put,lzA,lzB,lzC,lzD,lzE,lzF])
    refine tEc ?_
    refine bOc 19 (by kernel_rfl) rfl ?_
    intro K HK
    refine wanted_go rfl ?_
    try simp only [lzA,lzB,lzC]
    refine wp_store_cell (.tmp 76) (.tmp 74) (v:=.slice a9 (lg.length+1) c9) (new:=#[.slice a9 (lg.length+1) c9,.int .i64 boot,.int .i64 next,.slice (some ⟨g,0,none⟩) L.length co]) rfl rfl (by rfl) (by rfl) RB11.o info_rcs (by simp) (by rfl) (by rfl) ?_
    intro w12 r12 g12
    refine HK.o _ _ ⟨.inl (by decide),?_⟩
    clear HK K
    try simp only [Act.put]
    refine bDc (by kernel_rfl) ?_
    have HN12:=η (HN11.o.box g12)
    have R12:=η r12
    have HZ12:Hid (w.heap.size≤w12.heap.size):=η (by have:=HZ6.o;have:=G8.o.size;have:=G10.o.size;have:=HG11.o.size;have:=g12.size;omega)
    clear r12 g12
    have HF:Hid (yesO q house=([⟨q.deed,q.parts,true,[]⟩],[⟨5,q.deed,q.parts⟩],asksE ⟨q.deed,q.parts,true,[]⟩)):=η (by unfold yesO;rw [if_pos ⟨HT.o.symm,HMM.o,HNN.o⟩,if_pos HAL.o])
    obtain⟨g9,vp9,e9,hg9,zg9,d0,d1,d2,d3,-,hp9,-⟩:=HN12.o.at_ (by simp) HK6.o
    obtain rfl:g=g9:=by simpa using e9
    dsimp only at d0 d1 d2 d3 hp9
    have sf:=HN12.o.free
    have HN13:=η (HN12.o.decide (by simp) HK6.o)
    clear e9 hg9 d0 d1 hp9
    go_upto_region 9 with fail
    obtain⟨w13,hw13⟩:∃y:World,y=(w12.setCell ⟨g,k*4+2,none⟩ (.bool true)).setCell ⟨g,k*4+3,none⟩ (.slice none 0 0):=⟨_,rfl⟩
    rw [←hw13]
    rw [←hw13] at HN13
    have HG13:Hid (w12.grownBy w13 (some g)):=η (by rw [hw13];exact grownBy_trans (grownBy_setCell w12 ⟨g,k*4+2,none⟩ _) (grownBy_setCell _ ⟨g,k*4+3,none⟩ _))
    clear hw13 d2 d3 sf zg9
    have HK13:Hid (((L.set k (⟨q.deed,q.parts,q.dec,q.heard++ [house]⟩,Value.slice a5 (q.heard.length+1) c5)).set k (⟨q.deed,q.parts,true,[]⟩,Value.slice none 0 0))[k]? =some (⟨q.deed,q.parts,true,[]⟩,Value.slice none 0 0)):=η (List.getElem?_set_self (by simpa using HKL.o))
    obtain⟨g9,vp9,e9,hg9,zg9,d0,d1,d2,d3,i9,hp9,-⟩:=HN13.o.at_ (by simp) HK13.o
    obtain rfl:g=g9:=by simpa using e9
    dsimp only at d0 d1 d2 d3 hp9 i9
    obtain⟨a9p,c9p,rfl,-⟩:=id hp9
    have HAS:=η (head_asks (o:=⟨q.deed,q.parts,true,[]⟩) (ah:=none) (ch:=0) w13 ⟨d0,d1,d2,d3,i9,hp9.mono (fr_sub _ _ _),Sl.nil _ _⟩ HPR.o)
    have RB13:=η (row_by R12.o HG13.o (fun e=>by rcases HN6.o.ok.off (i:=0) (j:=2) rfl rfl (by decide) with h|h;exact absurd h (by simp);exact h e))
    clear e9 hg9 zg9 d0 d1 d2 d3 i9 hp9
    go_wp2_with fail
    refine HAS.o.mono ?_
    rintro e w14 ⟨v14,rfl,ho14,hb14⟩
    obtain⟨a14,c14,rfl⟩:=ho14.form
    have HM:=η (OwnC.ovn (by decide) ho14)
    have G14:=η hb14
    clear ho14 hb14
    generalize hms:asksE ⟨q.deed,q.parts,true,[]⟩=ms at*
    have HMS:=η hms
    clear hms
    go_wp2
    go_ret
    have z1:=HZ12.o
    have z2:=HG13.o.size
    have z3:=G14.o.size
    refine⟨_,rfl,_,_,_,row_grow RB13.o G14.o,by rw [HF.o];exact HN13.o.later G14.o,?_,?_,by omega⟩
    ·rw [HF.o,List.set_set,List.map_set,List.set_eq_take_append_cons_drop,if_pos (by simpa using HKL.o)];rfl
    ·rw [HF.o]
     dsimp only
     refine Sl.mono (fun a v e=>?_) HM.o
     unfold ov at e
     split at e
     ·cases e
     ·rw [ov_new (by omega)];exact e
   ·have HNA:=η hall
    have hdn:decide (q.heard.length+1<(housesE q.parts).length)=true:=decide_eq_true (by have:=HLN.o;omega)
    have hdi:q.heard.length+1<(housesE q.parts).length:=by have:=HLN.o;omega
    clear hall
    have HF:Hid (yesO q house=([⟨q.deed,q.parts,q.dec,q.heard++ [house]⟩],[],[])):=η (by unfold yesO;rw [if_pos ⟨HT.o.symm,HMM.o,HNN.o⟩,if_neg HNA.o])
    have HHO6:=η (fun(W:World) (hs:Sl Ty.pt W.cell? (.slice a6 q.parts.length c6) q.parts)=>part_houses W hs (by have:=HPR.o.len;omega) HPR.o.ne HPR.o.lt)
    refine bSc (fun w'=>w'.cell? ⟨g,k*4+3,none⟩=some (.slice a5 (q.heard.length+1) c5)∧w'.cell? ⟨g,k*4+1,none⟩=some (.slice a6 q.parts.length c6)) [11] (by kernel_rfl) ?_
    intro wd GD zD
    have ZD:=η zD
    clear zD
    refine bLc [0,1,2,3,4,5,6,7,8] 14 (by kernel_rfl) (fun _ _ _ _ _ h=>h) (HS.o _ GD) ?_
    repeat (refine tNc (v:=?_) rfl (by rfl) ?_ ?_;rotate_left;(· (intro w' hSw;(try dsimp only at hSw);obtain⟨hs0,hs1⟩:=hSw;go_simp<;>with_reducible rfl));try simp only [Act.put,lzA,lzB,lzC,lzD,lzE,lzF])
    refine tEc ?_
    refine bOc 9 (by kernel_rfl) rfl ?_
    intro K HK
    try simp only [lzA,lzB,lzC]
    go_simp
    go_at_call 47
    refine(HHO6.o _ (HP6.o.mono (GD).sub)).mono ?_
    rintro e w8 ⟨v8,rfl,ho8,hb8⟩
    obtain⟨a8,c8,rfl⟩:=owns_form ho8
    have G8:=η (Grow.trans GD hb8)
    clear ho8 hb8
    refine HK.o _ _ ⟨.inr (HS.o _ G8.o),?_⟩
    clear HK K
    try simp only [Act.put,lzA,lzB,lzC,lzD,lzE,lzF]
    refine bLc [10] 14 (by kernel_rfl) (fun _ _ _ _ _ h=>h) (HS.o _ G8.o) ?_
    repeat (refine tNc (v:=?_) rfl (by rfl) ?_ ?_;rotate_left;(· (intro w' hSw;(try dsimp only at hSw);obtain⟨hs0,hs1⟩:=hSw;go_simp<;>with_reducible rfl));try simp only [Act.put,lzA,lzB,lzC,lzD,lzE,lzF])
    refine tEc ?_
    refine bOc 11 (by kernel_rfl) rfl ?_
    intro K HK
    try simp only [lzA,lzB,lzC]
    go_simp
    refine HK.o _ _ ⟨.inl (by decide),?_⟩
    clear HK K
    try simp only [Act.put,lzA,lzB,lzC,lzD,lzE,lzF]
    refine bDc (by kernel_rfl) ?_
    go_wp2
    go_ret
    exact⟨_,rfl,_,_,_,row_grow RB6.o G8.o,by rw [HF.o,List.append_nil];exact HN6.o.later G8.o,by rw [HF.o];exact HMP.o,by rw [HF.o];exact Sl.nil _ _,by have:=HZ6.o;have:=G8.o.size;omega⟩
  ·have hmb:decide (house∈housesE q.parts)=false:=decide_eq_false hm
   have HF:Hid (yesO q house=([q],[],[])):=η (by unfold yesO;rw [if_neg (by simp [hm])])
   clear hm
   go_enter Tryz.func105,Tryz.ntmps105
   go_wp2_with fail
   refine(HIN.o _ (Grow.refl _)).mono ?_
   rintro e w1 ⟨rfl,hb1⟩
   have G1:=η hb1
   rw [hnb]
   replace c1:=hb1.sub _ _ c1
   clear hb1 hnb c0 c2 c3 b0 b1 b2 b3
   go_wp2_with fail
   refine(HHO.o _ (HPs.o.mono G1.o.sub)).mono ?_
   rintro e w2 ⟨v2,rfl,ho2,hb2⟩
   obtain⟨a2,c2',rfl⟩:=owns_form ho2
   have HI2:=η (ints_of ho2 (houses_ok q.parts))
   have G2:=η (G1.o.trans hb2)
   clear ho2 hb2 c1
   go_wp2_with fail
   refine(contains_int (n:=house) _ HI2.o).mono ?_
   rintro e w3 ⟨rfl,hb3⟩
   have G3:=η (G2.o.trans hb3)
   rw [hmb]
   clear hb3 hmb
   go_wp2
   go_ret
   exact⟨_,rfl,_,_,L,row_grow HRW.o G3.o,by rw [HF.o,List.append_nil];exact HRR.o.later G3.o,by rw [HF.o];exact HTK.o.symm,by rw [HF.o];exact Sl.nil _ _,(G3.o).size⟩
def ackO (o:Opn) (n:Int):List Opn×List Rc×List Ms:=
 if o.dec=true∧n∈housesE o.parts∧n∉o.heard then
  (if o.heard.length+1=(housesE o.parts).length then([],[⟨6,o.deed,[]⟩],[]) else([⟨o.deed,o.parts,o.dec,o.heard++ [n]⟩],[],[]))
 else([o],[],[])
set_option maxRecDepth 100000 in
set_option maxHeartbeats 4000000 in
theorem head_ack {wz:World} (w:World) {B k:Nat} {vl vo:Value} {lg:List Rc} {L:List OpH} {x:OpH} {boot next house:Int} (hr:HR wz w B vl vo lg L) (hrow:w.heap[B]? =some (.cells #[vl,.int .i64 boot,.int .i64 next,vo] 35 (0,0))) (hk:L[k]? =some x) (hp:PtsR x.1.parts) (hh:I64 house) (hlg:lg.length≤100000) (hL:L.length≤12) (h3:x.1.heard.length≤3)
  (hle:house∈housesE x.1.parts→house∉x.1.heard→x.1.heard.length+1≤(housesE x.1.parts).length):
  Calls Tryz.prog 107 #[.pointer (some ⟨B,0,none⟩),.int .i64 k,.int .i64 house] w fun e w'=>e=.returned (.tuple #[])∧HdPost wz w B k boot next lg (L.map (·.1)) (ackO x.1 house) (.slice none 0 0) w':=by
 obtain⟨q,xv⟩:=x
 dsimp only at hp h3 hle ⊢
 obtain⟨al,cl,ao,co,rfl,rfl⟩:=hr.form
 have hkl:=(List.getElem?_eq_some_iff.1 hk).1
 obtain⟨g,vp,rfl,hg1,hg2,c0,c1,c2,c3,i0,hP,hH⟩:=hr.at_ rfl hk
 obtain⟨ap,cp,rfl,-⟩:=id hP
 dsimp only at c0 c1 c2 c3 i0 hP hH
 obtain⟨ah,ch,rfl⟩:=hH.form
 have HPs:=η (hP.mono (fr_sub _ _ _))
 have HHs:Hid (Sl Ty.int w.cell? (.slice ah q.heard.length ch) q.heard):=η (hH.slc (by decide) (fun _ _ e=>by cases e) fun _ _=>rfl)
 have HIN:=η (fun(W:World) (hW:Grow w W)=>contains_int (n:=house) W (HHs.o.mono hW.sub))
 have HHO:=η (fun(W:World) (hs:Sl Ty.pt W.cell? (.slice ap q.parts.length cp) q.parts)=>part_houses W hs (by have:=hp.len;omega) hp.ne hp.lt)
 have HLE:=η hle
 have HRR:=η hr
 have HK:=η hk
 have HKL:=η hkl
 have HI0:=η i0
 have HIH:=η hh
 have HPP:=η hP
 have HHH:=η hH
 have HPR:=η hp
 have HRW:=η hrow
 have HTK:Hid ((L.map (·.1)).take k++([q]++(L.map (·.1)).drop (k+1))=L.map (·.1)):=η (by
  have e:(L.map (·.1))[k]? =some q:=by rw [List.getElem?_map,hk];rfl
  have hk2:k<(L.map (·.1)).length:=by simpa using hkl
  have e2:(L.map (·.1))[k]=q:=(List.getElem?_eq_some_iff.1 e).2
  rw [←e2,List.singleton_append,←List.drop_eq_getElem_cons hk2,List.take_append_drop])
 obtain⟨b0,b1,b2,b3⟩:=cells4 hrow
 have zB:B<w.heap.size:=(γ hrow)
 clear hp hle hr hk i0 hh hP hH hrow
 obtain⟨t,ht⟩:∃t,t=q.dec:=⟨_,rfl⟩
 rw [←ht] at c2
 have HT:=η ht
 clear ht
 cases t with
 |false=>
  have HF:Hid (ackO q house=([q],[],[])):=η (by unfold ackO;rw [if_neg (by rw [←HT.o];simp)])
  go_enter Tryz.func107,Tryz.ntmps107
  go_wp2
  refine bodyPost_ret (v:=.tuple #[]) (by simp [results,Tryz.results107,go_sem]) rfl ?_
  exact⟨rfl,_,_,L,HRW.o,by rw [HF.o,List.append_nil];exact HRR.o,by rw [HF.o];exact HTK.o.symm,by rw [HF.o];exact Sl.nil _ _,Nat.le_refl _⟩
 |true=>
  by_cases hn:house∈q.heard
  ·have hnb:decide (house∈q.heard)=true:=decide_eq_true hn
   have HF:Hid (ackO q house=([q],[],[])):=η (by unfold ackO;rw [if_neg (by simp [hn])])
   clear hn
   go_enter Tryz.func107,Tryz.ntmps107
   go_wp2_with fail
   refine(HIN.o _ (Grow.refl _)).mono ?_
   rintro e w1 ⟨rfl,hb1⟩
   have G1:=η hb1
   rw [hnb]
   clear hb1 hnb c0 c1 c2 c3 b0 b1 b2 b3
   go_wp2
   refine bodyPost_ret (v:=.tuple #[]) (by simp [results,Tryz.results107,go_sem]) rfl ?_
   exact⟨rfl,_,_,L,row_grow HRW.o G1.o,by rw [HF.o,List.append_nil];exact HRR.o.later G1.o,by rw [HF.o];exact HTK.o.symm,by rw [HF.o];exact Sl.nil _ _,(G1.o).size⟩
  have hnb:decide (house∈q.heard)=false:=decide_eq_false hn
  have HNN:=η hn
  clear hn
  by_cases hm:house∈housesE q.parts
  ·have HMM:=η hm
   have hmb:decide (house∈housesE q.parts)=true:=decide_eq_true hm
   have HLN:=η (HLE.o hm HNN.o)
   clear hm
   go_enter Tryz.func107,Tryz.ntmps107
   go_wp2_with fail
   refine(HIN.o _ (Grow.refl _)).mono ?_
   rintro e w1 ⟨rfl,hb1⟩
   have G1:=η hb1
   rw [hnb]
   replace c1:=hb1.sub _ _ c1
   clear hb1 hnb c0 c2 c3 b0 b1 b2 b3
   go_wp2_with fail
   refine(HHO.o _ (HPs.o.mono G1.o.sub)).mono ?_
   rintro e w2 ⟨v2,rfl,ho2,hb2⟩
   obtain⟨a2,c2',rfl⟩:=owns_form ho2
   have HI2:=η (ints_of ho2 (houses_ok q.parts))
   have G2:=η (G1.o.trans hb2)
   clear ho2 hb2 c1
   go_wp2_with fail
   refine(contains_int (n:=house) _ HI2.o).mono ?_
   rintro e w3 ⟨rfl,hb3⟩
   have G3:=η (G2.o.trans hb3)
   rw [hmb]
   clear hb3 hmb HI2
   have HR3:=η (HRR.o.later G3.o)
   have RB3:=η (row_grow HRW.o G3.o)
   obtain⟨g',vp',e1,-,zg,c0,c1,c2,c3,-,hp3,-⟩:=HR3.o.at_ rfl HK.o
   obtain rfl:g=g':=by simpa using e1
   dsimp only at c0 c2 c3
   have sf:=HR3.o.free
   clear e1 hp3 c1 c2 c0
   go_wp2_with (first|(at_builtin;refine wpList_appc (c:=fun _=>none) (base:=wz.heap.size) (l:=q.heard) (m:=[house]) (v:=.slice ah q.heard.length ch) ei_int rfl one_Tint (by decide) rfl (.tmp 40) (.tmp 42) rfl rfl ?own rfl (Src.of_new (T:=Ty.int) (x:=house) (cs:=#[.int .i64 house]) ⟨rfl,HIH.o⟩ _ _ ?d1) ?d2 ?d3 ?_))
   case own=>exact HHH.o.grow (G3.o.alloc _)
   case d1=>first|rfl|simp
   case d2=>simp;omega
   case d3=>have:=HR3.o.grow.size;simp;omega
   intro a5 c5 w5 ho5 hg5 hb5
   have HG5:=η hg5
   have HR3a:=η (HR3.o.later ((Grow.refl _).alloc (.cells #[.int .i64 house] 3)))
   have hoff:=HR3a.o.ok.off (HR.at_heard HK.o) (j:=2) rfl (by omega)
   have hgne:some g≠(Value.slice ah q.heard.length ch).ownBlock:=fun e=>by
    rcases hoff with h|h
    ·rw [h] at e;cases e
    ·exact h e.symm
   have RB5:=η (row_by (row_grow RB3.o ((Grow.refl _).alloc (.cells #[.int .i64 house] 3))) hg5 (fun e=>by
    have h9:=HR3a.o.ok.off (HR.at_heard HK.o) (j:=0) rfl (by omega)
    rcases h9 with h|h
    ·rw [h] at e;cases e
    ·exact h e.symm))
   have HNX:=η (HR.hear HR3a.o rfl HK.o (W2:=w5) (v':=.slice a5 (q.heard.length+1) c5) (l':=q.heard++ [house]) hg5 (hb5.imp_right fun⟨g,e,hge⟩=>⟨g,e,by simpa using hge⟩) ho5).1
   have e3:w5.cell? ⟨g,k*4+3,none⟩=some (.slice ah q.heard.length ch):=by
    rw [World.cell?_of_block (a:=⟨g,k*4+3,none⟩) (hg5.block g (by simp;omega) hgne)]
    exact((Grow.refl w3).alloc _).sub _ _ c3
   have ef:∀p,w5.frozen? ⟨g,p,none⟩=false:=fun p=>by
    rw [World.frozen?_of_block (a:=⟨g,p,none⟩) (hg5.block g (by simp;omega) hgne)]
    exact HR3a.o.free p
   have zg5:g<w5.heap.size:=World.block_lt_of_cell? _ _ e3
   clear sf ho5 hg5 hb5 c3 zg hoff hgne
   go_upto_region 3 with fail
   obtain⟨w6,hw6⟩:∃y:World,y=w5.setCell ⟨g,k*4+3,none⟩ (.slice a5 (q.heard.length+1) c5):=⟨_,rfl⟩
   rw [←hw6] at HNX ⊢
   have RB6:Hid (w6.heap[B]? =some (.cells #[.slice al lg.length cl,.int .i64 boot,.int .i64 next,.slice (some ⟨g,0,none⟩) L.length co] 35 (0,0))):=η (row_by RB5.o (by rw [hw6];exact grownBy_setCell w5 ⟨g,k*4+3,none⟩ _) (fun e=>by
    rcases HRR.o.ok.off (i:=0) (j:=2) rfl rfl (by decide) with h|h
    ·cases h
    ·exact h e))
   have HZ6:Hid (w.heap.size≤w6.heap.size):=η (by rw [hw6];have:=G3.o.size;have:=HG5.o.size;simp at*;omega)
   clear hw6 e3 ef zg5
   have HK6:Hid ((L.set k (⟨q.deed,q.parts,q.dec,q.heard++ [house]⟩,Value.slice a5 (q.heard.length+1) c5))[k]? =some (⟨q.deed,q.parts,q.dec,q.heard++ [house]⟩,Value.slice a5 (q.heard.length+1) c5)):=η (List.getElem?_set_self HKL.o)
   have HN6:Hid (HR wz w6 B (.slice al lg.length cl) (.slice (some ⟨g,0,none⟩) L.length co) lg (L.set k (⟨q.deed,q.parts,q.dec,q.heard++ [house]⟩,Value.slice a5 (q.heard.length+1) c5))):=η HNX.o
   clear HNX
   obtain⟨g6,vp6,e6,hg6,zg6,d0,d1,d2,d3,-,hp6,-⟩:=HN6.o.at_ (by simp) HK6.o
   obtain rfl:g=g6:=by simpa using e6
   obtain⟨a6,c6,rfl,-⟩:=id hp6
   dsimp only at d0 d1 d2 d3 hp6
   have HP6:=η (hp6.mono (fr_sub _ _ _))
   have HPF:=η hp6
   have HS:Hid (∀W,Grow w6 W→W.cell? ⟨g,k*4+3,none⟩=some (.slice a5 (q.heard.length+1) c5)∧W.cell? ⟨g,k*4+1,none⟩=some (.slice a6 q.parts.length c6)):=fun W hW=>⟨hW.sub _ _ d3,hW.sub _ _ d1⟩
   have HMP:Hid ((L.set k (⟨q.deed,q.parts,q.dec,q.heard++ [house]⟩,Value.slice a5 (q.heard.length+1) c5)).map (·.1)=(L.map (·.1)).take k++([⟨q.deed,q.parts,q.dec,q.heard++ [house]⟩]++(L.map (·.1)).drop (k+1))):=η (by rw [List.map_set,List.set_eq_take_append_cons_drop,if_pos (by simpa using HKL.o)];rfl)
   clear e6 hg6 zg6 d0 d1 d2 d3 hp6
   by_cases hall:q.heard.length+1=(housesE q.parts).length
   ·have HAL:=η hall
    have hdn:(q.heard.length+1==(housesE q.parts).length)=true:=by simp [hall]
    have hdi:((q.heard.length:Int)+1==((housesE q.parts).length:Int))=true:=by simp;omega
    clear hall
    have HHO6:=η (fun(W:World) (hs:Sl Ty.pt W.cell? (.slice a6 q.parts.length c6) q.parts)=>part_houses W hs (by have:=HPR.o.len;omega) HPR.o.ne HPR.o.lt)
    refine bSc (fun w'=>w'.cell? ⟨g,k*4+3,none⟩=some (.slice a5 (q.heard.length+1) c5)∧w'.cell? ⟨g,k*4+1,none⟩=some (.slice a6 q.parts.length c6)) [11] (by kernel_rfl) ?_
    intro wd GD zD
    have ZD:=η zD
    clear zD
    refine bLc [0,1,2,3,4,5,6,7,8] 14 (by kernel_rfl) (fun _ _ _ _ _ h=>h) (HS.o _ GD) ?_
    repeat (refine tNc (v:=?_) rfl (by rfl) ?_ ?_;rotate_left;(· (intro w' hSw;(try dsimp only at hSw);obtain⟨hs0,hs1⟩:=hSw;go_simp<;>with_reducible rfl));try simp only [Act.put,lzA,lzB,lzC,lzD,lzE,lzF])
    refine tEc ?_
    refine bOc 9 (by kernel_rfl) rfl ?_
    intro K HK
    try simp only [lzA,lzB,lzC]
    go_simp
    go_at_call 47
    refine(HHO6.o _ (HP6.o.mono (GD).sub)).mono ?_
    rintro e w8 ⟨v8,rfl,ho8,hb8⟩
    obtain⟨a8,c8,rfl⟩:=owns_form ho8
    have G8:=η (Grow.trans GD hb8)
    clear ho8 hb8
    refine HK.o _ _ ⟨.inr (HS.o _ G8.o),?_⟩
    clear HK K
    try simp only [Act.put,lzA,lzB,lzC,lzD,lzE,lzF]
    refine bLc [10] 14 (by kernel_rfl) (fun _ _ _ _ _ h=>h) (HS.o _ G8.o) ?_
    repeat (refine tNc (v:=?_) rfl (by rfl) ?_ ?_;rotate_left;(· (intro w' hSw;(try dsimp only at hSw);obtain⟨hs0,hs1⟩:=hSw;go_simp<;>with_reducible rfl));try simp only [Act.put,lzA,lzB,lzC,lzD,lzE,lzF])
    refine tEc ?_
    refine bOc 11 (by kernel_rfl) rfl ?_
    intro K HK
    try simp only [lzA,lzB,lzC]
    go_simp
    refine HK.o _ _ ⟨.inl (by decide),?_⟩
    clear HK K
    try simp only [Act.put,lzA,lzB,lzC,lzD,lzE,lzF]
    refine bDc (by kernel_rfl) ?_
    have RB8:=η (row_grow RB6.o G8.o)
    have HN8:=η (HN6.o.later G8.o)
    obtain⟨e0,-,-,-⟩:=cells4 RB8.o
    obtain⟨g7,vp7,e7,-,-,d0,-,-,-,-,-,-⟩:=HN8.o.at_ (by simp) HK6.o
    obtain rfl:g=g7:=by simpa using e7
    dsimp only at d0
    have d1:=(HS.o _ G8.o).2
    have HS7:Hid (∀W,Grow w8 W→W.cell? ⟨B,0,none⟩=some (.slice al lg.length cl)∧W.cell? ⟨g,k*4,none⟩=some (.int .i64 q.deed)):=fun W hW=>⟨hW.sub _ _ e0,hW.sub _ _ d0⟩
    clear e7 e0 d0 d1
    go_upto_region 4 with fail
    refine bSc (fun w'=>w'.cell? ⟨B,0,none⟩=some (.slice al lg.length cl)∧w'.cell? ⟨g,k*4,none⟩=some (.int .i64 q.deed)) [14] (by kernel_rfl) ?_
    intro wd GD zD
    have ZD:=η zD
    clear zD
    refine bLc [0,1,2,3,4,5,6,7,8] 17 (by kernel_rfl) (fun _ _ _ _ _ h=>h) (HS7.o _ GD) ?_
    repeat (refine tNc (v:=?_) rfl (by rfl) ?_ ?_;rotate_left;(· (intro w' hSw;(try dsimp only at hSw);obtain⟨hs0,hs1⟩:=hSw;go_simp<;>with_reducible rfl));try simp only [Act.put,lzA,lzB,lzC,lzD,lzE,lzF])
    refine tEc ?_
    refine bLc [9] 17 (by kernel_rfl) (fun _ _ _ _ _ h=>h) (HS7.o _ GD) ?_
    repeat (refine tNc (v:=?_) rfl (by rfl) ?_ ?_;rotate_left;(· (intro w' hSw;(try dsimp only at hSw);obtain⟨hs0,hs1⟩:=hSw;go_simp<;>with_reducible rfl));try simp only [Act.put,lzA,lzB,lzC,lzD,lzE,lzF])
    refine tEc ?_
    refine bOc 10 (by kernel_rfl) rfl ?_
    intro K HK
    try simp only [lzA,lzB,lzC]
    go_simp
    obtain⟨w10,hw10⟩:∃y:World,y=wd.alloc (.cells #[.int .i64 6,.int .i64 q.deed,.slice none 0 0] 81):=⟨_,rfl⟩
    have G10:Hid (Grow w8 w10):=η (by rw [hw10];exact(GD).alloc _)
    have HN10:=η (HN6.o.later (G8.o.trans G10.o))
    have HSR:Hid (Src Ty.rc (fr wz w10 (hro B (.slice al lg.length cl) (.slice (some ⟨g,0,none⟩) L.length co) (L.set k (⟨q.deed,q.parts,q.dec,q.heard++ [house]⟩,Value.slice a5 (q.heard.length+1) c5)))) w10 (.slice (some ⟨wd.heap.size,0,none⟩) 1 1) [(⟨6,q.deed,[]⟩:Rc)]):=η (by rw [hw10];exact Src.of_new (T:=Ty.rc) (x:=(⟨6,q.deed,[]⟩:Rc)) (cs:=#[.int .i64 6,.int .i64 q.deed,.slice none 0 0]) ⟨_,rfl,(show I64 6 from by unfold I64;decide),HI0.o,Sl.nil _ _⟩ _ _ rfl)
    rw [←hw10]
    clear hw10
    refine HK.o _ _ ⟨.inr (HS7.o _ G10.o),?_⟩
    clear HK K
    try simp only [Act.put,lzA,lzB,lzC,lzD,lzE,lzF]
    refine bOc 11 (by kernel_rfl) rfl ?_
    intro K HK
    refine wanted_go rfl ?_
    try simp only [lzA,lzB,lzC]
    refine wp_appc (c:=(fr wz w10 (hro B (.slice al lg.length cl) (.slice (some ⟨g,0,none⟩) L.length co) (L.set k (⟨q.deed,q.parts,q.dec,q.heard++ [house]⟩,Value.slice a5 (q.heard.length+1) c5))))) (base:=wz.heap.size) (l:=lg) (m:=[(⟨6,q.deed,[]⟩:Rc)]) (v:=.slice al lg.length cl) ei_rc rfl one_Trc (by decide) (.tmp 62) (.tmp 68) rfl rfl HN10.o.log rfl HSR.o (by simp;omega) (by have:=HN6.o.grow.size;have:=G8.o.size;have:=G10.o.size;omega) ?_
    intro a9 c9 w11 ho11 hg11 hb11
    have HN11:=η (HN10.o.logs hg11 hb11 ho11)
    have HG11:=η hg11
    have NB:Hid (some B≠(Value.slice al lg.length cl).ownBlock):=η (fun e=>by rcases HN6.o.ok.off (i:=0) (j:=1) rfl rfl (by decide) with h|h;exact absurd h (by simp);exact h e)
    have RB11:=η (row_by (row_grow RB6.o (G8.o.trans G10.o)) hg11 NB.o)
    have NG:Hid (some g≠(Value.slice al lg.length cl).ownBlock):=η (fun e=>by rcases HN6.o.ok.off (i:=2) (j:=1) rfl rfl (by decide) with h|h;exact absurd h (by simp [Value.ownBlock]);exact h e)
    have HS11:Hid (w11.cell? ⟨B,0,none⟩=some (.slice al lg.length cl)∧w11.cell? ⟨g,k*4,none⟩=some (.int .i64 q.deed)):=η (by
     have hs:=HS7.o w10 G10.o
     exact⟨HG11.o.cell hs.1 NB.o,HG11.o.cell hs.2 NG.o⟩)
    clear ho11 hg11 hb11
    refine HK.o _ _ ⟨.inr (HS11.o),?_⟩
    clear HK K
    try simp only [Act.put,lzD,lzE,lzF]
    refine bLc [12,13] 17 (by kernel_rfl) (fun _ _ _ _ _ h=>h) (HS11.o) ?_
    repeat (refine tNc (v:=?_) rfl (by rfl) ?_ ?_;rotate_left;(· (intro w' hSw;(try dsimp only at hSw);obtain⟨hs0,hs1⟩:=hSw;go_simp<;>with_reducible rfl));try simp only [Act.put,lzA,lzB,lzC,lzD,lzE,lzF])
    refine tEc ?_
    refine bOc 14 (by kernel_rfl) rfl ?_
    intro K HK
    refine wanted_go rfl ?_
    try simp only [lzA,lzB,lzC]
    refine wp_store_cell (.tmp 71) (.tmp 69) (v:=.slice a9 (lg.length+1) c9) (new:=#[.slice a9 (lg.length+1) c9,.int .i64 boot,.int .i64 next,.slice (some ⟨g,0,none⟩) L.length co]) rfl rfl (by rfl) (by rfl) RB11.o info_rcs (by simp) (by rfl) (by rfl) ?_
    intro w12 r12 g12
    refine HK.o _ _ ⟨.inl (by decide),?_⟩
    clear HK K
    try simp only [Act.put]
    refine bDc (by kernel_rfl) ?_
    have HN12:=η (HN11.o.box g12)
    have R12:=η r12
    have HZ12:Hid (w.heap.size≤w12.heap.size):=η (by have:=HZ6.o;have:=G8.o.size;have:=G10.o.size;have:=HG11.o.size;have:=g12.size;omega)
    clear r12 g12
    have HF:Hid (ackO q house=([],[⟨6,q.deed,[]⟩],[])):=η (by unfold ackO;rw [if_pos ⟨HT.o.symm,HMM.o,HNN.o⟩,if_pos HAL.o])
    have HDL:=η (delete_oph (k:=k) HN12.o.opn_len (by simpa using HKL.o))
    rw [List.length_set,List.eraseIdx_set_eq] at HDL
    have hk12:(k:Int)+1≤13:=by have:=HKL.o;omega
    have hw1:IntKind.i64.wrap ((k:Int)+1)=(k:Int)+1:=IntWalk.i64_in _ (by omega)
    obtain⟨e0,e1,e2,e3⟩:=cells4 R12.o
    have zB:B<w12.heap.size:=(γ R12.o)
    go_wp2_with fail
    refine HDL.o.mono ?_
    rintro e w13 ⟨rfl,ho13,hg13⟩
    have HN13:=η (HN12.o.erase (k:=k) (vo':=.slice (some ⟨g,0,none⟩) (L.length - 1) co) hg13 rfl (by rw [List.eraseIdx_set_eq];exact ho13))
    have RB13:=η (row_by R12.o hg13 (fun e=>by rcases HN6.o.ok.off (i:=0) (j:=2) rfl rfl (by decide) with h|h;exact absurd h (by simp);exact h e))
    have HZ13:Hid (w.heap.size≤w13.heap.size):=η (by have:=HZ12.o;have:=hg13.size;omega)
    clear ho13 hg13 e0 e1 e2 e3 zB HDL hw1 hk12
    go_wp2_with (first|(refine wpList_store_cell rfl (.tmp 82) (.tmp 80) (v:=.slice (some ⟨g,0,none⟩) (L.length - 1) co) (new:=#[.slice a9 (lg.length+1) c9,.int .i64 boot,.int .i64 next,.slice (some ⟨g,0,none⟩) (L.length - 1) co]) rfl rfl (by rfl) (by rfl) RB13.o info_opns (by simp) (by rfl) (by rfl) ?_))
    intro w14 r14 g14
    go_wp2
    go_end0
    have z1:=HZ13.o
    have z2:=g14.size
    refine⟨rfl,_,_,_,r14,by rw [HF.o];exact HN13.o.box g14,?_,by rw [HF.o];exact Sl.nil _ _,by omega⟩
    rw [HF.o,List.eraseIdx_set_eq,List.eraseIdx_eq_take_drop_succ,List.map_append,List.map_take,List.map_drop];rfl
   ·have HNA:=η hall
    have hdn:(q.heard.length+1==(housesE q.parts).length)=false:=by simp [hall]
    have hdi:((q.heard.length:Int)+1==((housesE q.parts).length:Int))=false:=by simp;omega
    clear hall
    have HF:Hid (ackO q house=([⟨q.deed,q.parts,q.dec,q.heard++ [house]⟩],[],[])):=η (by unfold ackO;rw [if_pos ⟨HT.o.symm,HMM.o,HNN.o⟩,if_neg HNA.o])
    have HHO6:=η (fun(W:World) (hs:Sl Ty.pt W.cell? (.slice a6 q.parts.length c6) q.parts)=>part_houses W hs (by have:=HPR.o.len;omega) HPR.o.ne HPR.o.lt)
    refine bSc (fun w'=>w'.cell? ⟨g,k*4+3,none⟩=some (.slice a5 (q.heard.length+1) c5)∧w'.cell? ⟨g,k*4+1,none⟩=some (.slice a6 q.parts.length c6)) [11] (by kernel_rfl) ?_
    intro wd GD zD
    have ZD:=η zD
    clear zD
    refine bLc [0,1,2,3,4,5,6,7,8] 14 (by kernel_rfl) (fun _ _ _ _ _ h=>h) (HS.o _ GD) ?_
    repeat (refine tNc (v:=?_) rfl (by rfl) ?_ ?_;rotate_left;(· (intro w' hSw;(try dsimp only at hSw);obtain⟨hs0,hs1⟩:=hSw;go_simp<;>with_reducible rfl));try simp only [Act.put,lzA,lzB,lzC,lzD,lzE,lzF])
    refine tEc ?_
    refine bOc 9 (by kernel_rfl) rfl ?_
    intro K HK
    try simp only [lzA,lzB,lzC]
    go_simp
    go_at_call 47
    refine(HHO6.o _ (HP6.o.mono (GD).sub)).mono ?_
    rintro e w8 ⟨v8,rfl,ho8,hb8⟩
    obtain⟨a8,c8,rfl⟩:=owns_form ho8
    have G8:=η (Grow.trans GD hb8)
    clear ho8 hb8
    refine HK.o _ _ ⟨.inr (HS.o _ G8.o),?_⟩
    clear HK K
    try simp only [Act.put,lzA,lzB,lzC,lzD,lzE,lzF]
    refine bLc [10] 14 (by kernel_rfl) (fun _ _ _ _ _ h=>h) (HS.o _ G8.o) ?_
    repeat (refine tNc (v:=?_) rfl (by rfl) ?_ ?_;rotate_left;(· (intro w' hSw;(try dsimp only at hSw);obtain⟨hs0,hs1⟩:=hSw;go_simp<;>with_reducible rfl));try simp only [Act.put,lzA,lzB,lzC,lzD,lzE,lzF])
    refine tEc ?_
    refine bOc 11 (by kernel_rfl) rfl ?_
    intro K HK
    try simp only [lzA,lzB,lzC]
    go_simp
    refine HK.o _ _ ⟨.inl (by decide),?_⟩
    clear HK K
    try simp only [Act.put,lzA,lzB,lzC,lzD,lzE,lzF]
    refine bDc (by kernel_rfl) ?_
    go_wp2
    go_end0
    exact⟨rfl,_,_,_,row_grow RB6.o G8.o,by rw [HF.o,List.append_nil];exact HN6.o.later G8.o,by rw [HF.o];exact HMP.o,by rw [HF.o];exact Sl.nil _ _,by have:=HZ6.o;have:=G8.o.size;omega⟩
  ·have hmb:decide (house∈housesE q.parts)=false:=decide_eq_false hm
   have HF:Hid (ackO q house=([q],[],[])):=η (by unfold ackO;rw [if_neg (by simp [hm])])
   clear hm
   go_enter Tryz.func107,Tryz.ntmps107
   go_wp2_with fail
   refine(HIN.o _ (Grow.refl _)).mono ?_
   rintro e w1 ⟨rfl,hb1⟩
   have G1:=η hb1
   rw [hnb]
   replace c1:=hb1.sub _ _ c1
   clear hb1 hnb c0 c2 c3 b0 b1 b2 b3
   go_wp2_with fail
   refine(HHO.o _ (HPs.o.mono G1.o.sub)).mono ?_
   rintro e w2 ⟨v2,rfl,ho2,hb2⟩
   obtain⟨a2,c2',rfl⟩:=owns_form ho2
   have HI2:=η (ints_of ho2 (houses_ok q.parts))
   have G2:=η (G1.o.trans hb2)
   clear ho2 hb2 c1
   go_wp2_with fail
   refine(contains_int (n:=house) _ HI2.o).mono ?_
   rintro e w3 ⟨rfl,hb3⟩
   have G3:=η (G2.o.trans hb3)
   rw [hmb]
   clear hb3 hmb
   go_wp2
   refine bodyPost_ret (v:=.tuple #[]) (by simp [results,Tryz.results107,go_sem]) rfl ?_
   exact⟨rfl,_,_,L,row_grow HRW.o G3.o,by rw [HF.o,List.append_nil];exact HRR.o.later G3.o,by rw [HF.o];exact HTK.o.symm,by rw [HF.o];exact Sl.nil _ _,(G3.o).size⟩
theorem hearL_no1 {m:Ms}:∀{l:List Opn},l.findIdx? (fun o=>o.deed==m.deed)=none→hearL m l=none
 | [],_=>rfl
 |o::l,h=>by
  rw [List.findIdx?_cons] at h
  split at h
  ·cases h
  ·rename_i hn
   rw [hearL,if_neg (fun e=>hn (by simp [e])),hearL_no1 (by simpa using h)];rfl
theorem hearL_at1 {m:Ms}:∀{l:List Opn} {k:Nat} {q:Opn},l.findIdx? (fun o=>o.deed==m.deed)=some k→l[k]? =some q→hearL m l=some (l.take k++((hearO q m).1++l.drop (k+1)),(hearO q m).2)∧q.deed=m.deed
 | [],_,_,h,_=>by simp at h
 |o::l,k,q,h,hq=>by
  rw [List.findIdx?_cons] at h
  split at h
  ·rename_i he
   obtain rfl:=Option.some.inj h
   obtain rfl:=Option.some.inj hq
   have he':o.deed=m.deed:=by simpa using he
   exact⟨by rw [hearL,if_pos he'];rfl,he'⟩
  ·rename_i hn
   cases k with
   |zero=>simp at h
   |succ k=>
    have h':l.findIdx? (fun o=>o.deed==m.deed)=some k:=by simpa using h
    obtain⟨e1,e2⟩:=hearL_at1 h' (by simpa using hq)
    exact⟨by rw [hearL,if_neg (fun e=>hn (by simp [e])),e1];rfl,e2⟩
theorem yesO_hear {o:Opn} {m:Ms} (h:m.kind=2):hearO o m=yesO o m.house:=by
 unfold hearO yesO
 rw [h]
 by_cases hd:o.dec=true
 ·simp [hd]
 ·have hd':o.dec=false:=by simpa using hd
  simp [hd']
  try (split<;>rfl)
theorem ackO_hear {o:Opn} {m:Ms} (h:m.kind=6):hearO o m=ackO o m.house:=by
 unfold hearO ackO
 rw [h]
 by_cases hd:o.dec=true
 ·simp [hd]
  try (split<;>rfl)
 ·have hd':o.dec=false:=by simpa using hd
  simp [hd']
theorem one_msg {c:CM} {k d n:Int} (hk:I64 k) (hd:I64 d) (hn:I64 n) (w:World) {b:Nat} (hb:b≤w.heap.size):OwnC Ty.ms c (w.alloc (.cells #[.int .i64 k,.int .i64 d,.int .i64 n,.slice none 0 0] 95)) b 95 (.slice (some ⟨w.heap.size,0,none⟩) 1 1) [⟨k,d,n,[]⟩]:=
 ⟨[[.int .i64 k,.int .i64 d,.int .i64 n,.slice none 0 0]],World.ownsRow_lit w #[.int .i64 k,.int .i64 d,.int .i64 n,.slice none 0 0] 1 hb (by decide) rfl,rfl,fun i cs x a b=>by
  match i with
  |0=>
   simp only [List.getElem?_cons_zero,Option.some.injEq] at a b
   subst a;subst b
   exact⟨_,rfl,hk,hd,hn,Sl.nil _ _⟩
  |i+1=>simp at a⟩
theorem ackO_says (o:Opn) (n:Int):(ackO o n).2.2=[]:=by
 unfold ackO
 split
 ·split<;>rfl
 ·rfl
theorem hhear_tells (w:World) (B:Nat) (d:Int) (l:List Opn) (hc:w.cell? ⟨B,1,none⟩=some (.int .i64 d)) (hB:B<w.heap.size):Tells Tryz.prog Ty.opn aggOf w 104 #[.pointer (some ⟨B,0,none⟩)] l (fun o=>o.deed==d) where
 ent:=fun args w=>by kernel_rfl
 say:=fun wx cs x hg _ hR=>by
  obtain⟨vp,vh,rfl,-,hp,hh⟩:=hR
  obtain⟨ap,cp,rfl,-⟩:=hp
  obtain⟨ah,ch,rfl,-⟩:=hh
  have hBx:B<wx.heap.size:=Nat.lt_of_lt_of_le hB hg.size
  have hc2:wx.cell? ⟨B,1,none⟩=some (.int .i64 d):=hg.sub _ _ hc
  clear hc
  show Calls _ _ #[.agg #[.int .i64 x.deed,.slice ap x.parts.length cp,.bool x.dec,.slice ah x.heard.length ch],.pointer (some ⟨B,0,none⟩)] _ _
  go_enter Tryz.func104,Tryz.ntmps104
  go_wp2
  go_ret
  exact⟨rfl,grA⟩
def HearPost (w:World) (h:Hd) (m:Ms) (v1 v2:Value) (w':World):Prop:=Of Ty.hd (ov (fun _=>none) w w') v1 (hHearH h m)∧Sl Ty.ms (ov (fun _=>none) w w') v2 (hHearM h m)∧Grow w w'
theorem HR.fin {w W:World} {B:Nat} {vl vo v2:Value} {h:Hd} {m:Ms} {lg:List Rc} {L:List OpH} (b:HR w W B vl vo lg L) (h1:I64 h.boot) (h2:I64 h.next) (he:hHearH h m=⟨lg,h.boot,h.next,L.map (·.1)⟩) (hm:Sl Ty.ms (ov (fun _=>none) w W) v2 (hHearM h m)):HearPost w h m (.agg #[vl,.int .i64 h.boot,.int .i64 h.next,vo]) v2 W:=
 ⟨by rw [he];exact b.of h1 h2,hm,b.grow⟩
structure HdInv (h:Hd):Prop where
 parts:∀o∈h.opn,PtsR o.parts
 few:∀o∈h.opn,∀n,n∈housesE o.parts→n∉o.heard→o.heard.length+1≤(housesE o.parts).length
 logp:∀r∈h.log,r.parts.length*24≤140737488355328
set_option maxRecDepth 100000 in
set_option maxHeartbeats 40000000 in
theorem whead_hear {v vm:Value} {h:Hd} {m:Ms} (w:World) (hv:Of Ty.hd w.cell? v h) (hm:Of Ty.ms w.cell? vm m) (hk:HdOk h) (hi:HdInv h):
  Calls Tryz.prog 69 #[v,vm] w fun e w'=>∃v1 v2,e=.returned (.tuple #[v1,v2])∧HearPost w h m v1 v2 w':=by
 obtain⟨al,cl,ar,cr,rfl⟩:=hv.hd_form
 have HMI:Hid (I64 m.kind∧I64 m.deed∧I64 m.house):=η (by obtain⟨cs,he,vp,rfl,i0,i1,i2,-⟩:=hm;exact⟨i0,i1,i2⟩)
 obtain⟨ap,cp,rfl⟩:=hm.ms_form
 have HIB:Hid (I64 h.boot∧I64 h.next):=η (by obtain⟨cs,he,_,_,rfl,_,h1,h2,_⟩:=hv;exact⟨h1,h2⟩)
 have HOW:=η (fun(W:World) (hW:Grow w W)=>head_own W (hv.mono hW.sub) hk hi.logp)
 have HKK:=η hk
 have HII:=η hi
 clear hk hv hi hm
 obtain⟨wa,hwa⟩:∃y:World,y=w.alloc (.cells #[.slice al h.log.length cl,.int .i64 h.boot,.int .i64 h.next,.slice ar h.opn.length cr] 35):=⟨_,rfl⟩
 obtain⟨wb,hwb⟩:∃y:World,y=wa.alloc (.cells #[.int .i64 m.kind,.int .i64 m.deed,.int .i64 m.house,.slice ap m.parts.length cp] 95):=⟨_,rfl⟩
 obtain⟨wz,hwz⟩:∃y:World,y=wb.alloc (.cells #[.slice none 0 0,.int .i64 0,.int .i64 0,.slice none 0 0] 35):=⟨_,rfl⟩
 have hsa:wa.heap.size=w.heap.size+1:=by rw [hwa];simp
 have hsb:wb.heap.size=w.heap.size+2:=by rw [hwb];simp [hsa]
 have R1:Hid (wz.heap[w.heap.size]? =some (.cells #[.slice al h.log.length cl,.int .i64 h.boot,.int .i64 h.next,.slice ar h.opn.length cr] 35 (0,0))):=η (by rw [hwz,hwb,hwa];exact heap_later (heap_later (row_new _ _) _) _)
 have RM:Hid (wz.heap[w.heap.size+1]? =some (.cells #[.int .i64 m.kind,.int .i64 m.deed,.int .i64 m.house,.slice ap m.parts.length cp] 95 (0,0))):=η (by rw [hwz,hwb,←hsa];exact heap_later (row_new _ _) _)
 have R4:Hid (wz.heap[w.heap.size+2]? =some (.cells #[.slice none 0 0,.int .i64 0,.int .i64 0,.slice none 0 0] 35 (0,0))):=η (by rw [hwz,←hsb];exact row_new _ _)
 have G1:Hid (Grow w wz):=η (by rw [hwz,hwb,hwa];exact(((Grow.refl w).alloc _).alloc _).alloc _)
 have HZ:Hid (wz.heap.size=w.heap.size+3):=η (by rw [hwz];simp [hsb])
 go_enter Tryz.func69,Tryz.ntmps69
 go_upto_region 1 with fail
 rw [←hwa]
 try rw [hsa]
 rw [←hwb]
 try rw [hsb]
 rw [←hwz]
 clear hwa hwb hwz hsa hsb
 obtain⟨c0,c1,c2,c3⟩:=cells4 R1.o
 have z1:w.heap.size<wz.heap.size:=(γ R1.o)
 go_wp2_with fail
 refine(HOW.o _ G1.o).mono ?_
 rintro e w1 ⟨vl,vo,B0,L,rfl,hl,hr0⟩
 obtain⟨ag,cg,ao,co,rfl,rfl⟩:=hr0.form
 have HL:=η hl
 have HR0:=η hr0
 clear hr0 hl c0 c1 c2 c3 z1
 obtain⟨w2,hw2⟩:∃y:World,y=w1.alloc (.cells #[.slice ag h.log.length cg,.int .i64 h.boot,.int .i64 h.next,.slice ao L.length co] 35):=⟨_,rfl⟩
 obtain⟨B6,hB6⟩:∃y,y=w1.heap.size:=⟨_,rfl⟩
 have R6:Hid (w2.heap[B6]? =some (.cells #[.slice ag h.log.length cg,.int .i64 h.boot,.int .i64 h.next,.slice ao L.length co] 35 (0,0))):=η (by rw [hw2,hB6];exact row_new _ _)
 have HRR:Hid (HR wz w2 B6 (.slice ag h.log.length cg) (.slice ao L.length co) h.log L):=η (HR0.o.rebox (by rw [hw2];exact(Grow.refl _).alloc _) (by omega) (by rw [hw2,hB6];simp))
 have RM2:=η (row_grow RM.o HRR.o.grow)
 go_upto_region 2 with fail
 rw [←hw2,←hB6]
 clear hw2 hB6
 obtain⟨d0,d1,d2,d3⟩:=cells4 R6.o
 obtain⟨m0,m1,m2,m3⟩:=cells4 RM2.o
 have z6:B6<w2.heap.size:=(γ R6.o)
 have zm:w.heap.size+1<w2.heap.size:=(γ RM2.o)
 have HIX:=η (indexFunc_opn (p:=fun o=>o.deed==m.deed) w2 (HRR.o.opns.slc (d:=w2.cell?) (by decide) (fun a v e=>by unfold ov at e;split at e;cases e;exact e) fun _ _=>rfl) (hhear_tells w2 (w.heap.size+1) m.deed _ m1 zm))
 rw [HL.o] at HIX
 go_wp2_with fail
 refine HIX.o.mono ?_
 rintro e w3 ⟨rfl,hb3⟩
 have HR3:=η (HRR.o.later hb3)
 have R63:=η (row_grow R6.o hb3)
 have RM3:=η (row_grow RM2.o hb3)
 have R43:=η (row_grow R4.o HR3.o.grow)
 have RMZ:=η RM.o
 clear hb3 d0 d1 d2 d3 m0 m1 m2 m3 z6 zm HIX R6 RM2 HRR HR0 R1 RM
 have HS:Hid (∀W,Grow w3 W→W.cell? ⟨B6,0,none⟩=some (.slice ag h.log.length cg)∧W.cell? ⟨B6,1,none⟩=some (.int .i64 h.boot)∧W.cell? ⟨B6,2,none⟩=some (.int .i64 h.next)∧W.cell? ⟨B6,3,none⟩=some (.slice ao L.length co)∧W.cell? ⟨w.heap.size+1,1,none⟩=some (.int .i64 m.deed)∧W.cell? ⟨w.heap.size+1,2,none⟩=some (.int .i64 m.house)):=fun W hW=>by
  obtain⟨j0,j1,j2,j3⟩:=cells4 (row_grow R63.o hW)
  obtain⟨-,k1,k2,-⟩:=cells4 (row_grow RM3.o hW)
  exact⟨j0,j1,j2,j3,k1,k2⟩
 have HB6:Hid (wz.heap.size≤B6∧B6<w3.heap.size):=η (HR3.o.ok.lt B6 (by simp [hro]))
 obtain⟨d0,d1,d2,d3⟩:=cells4 R63.o
 obtain⟨m0,m1,m2,m3⟩:=cells4 RM3.o
 have z6:B6<w3.heap.size:=(γ R63.o)
 have zm:w.heap.size+1<w3.heap.size:=(γ RM3.o)
 have zr:w.heap.size+2<w3.heap.size:=(γ R43.o)
 cases hfi:h.opn.findIdx? (fun o=>o.deed==m.deed) with
 |none=>
  have hx:idxOf (fun o:Opn=>o.deed==m.deed) h.opn= -1:=by rw [idxOf,hfi]
  have HLN:=η (hearL_no1 hfi)
  have HE:Hid (hHearH h m=⟨h.log,h.boot,h.next,L.map (·.1)⟩):=η (by unfold hHearH;rw [HLN.o,HL.o])
  rw [hx]
  clear hx hfi
  by_cases hkd:m.kind=7
  ·have HMS:Hid (hHearM h m=[⟨5,m.deed,m.house,[]⟩]):=η (by unfold hHearM;rw [HLN.o,if_pos hkd])
   have hk2:(m.kind==2)=false:=by simp [hkd]
   have hk3:(m.kind==3)=false:=by simp [hkd]
   have hk6:(m.kind==6)=false:=by simp [hkd]
   have hk7:(m.kind==7)=true:=by simp [hkd]
   clear hkd
   go_upto_region 13 with fail
   clear d0 d1 d2 d3 m0 m1 m2 m3 z6 zm zr
   refine bSc (fun w'=>w'.cell? ⟨B6,0,none⟩=some (.slice ag h.log.length cg)∧w'.cell? ⟨B6,1,none⟩=some (.int .i64 h.boot)∧w'.cell? ⟨B6,2,none⟩=some (.int .i64 h.next)∧w'.cell? ⟨B6,3,none⟩=some (.slice ao L.length co)∧w'.cell? ⟨w.heap.size+1,1,none⟩=some (.int .i64 m.deed)∧w'.cell? ⟨w.heap.size+1,2,none⟩=some (.int .i64 m.house)) [8] (by kernel_rfl) ?_
   intro wd GD zD
   have ZD:=η zD
   clear zD
   refine bLc [0,1,2,3,4,5] 11 (by kernel_rfl) (fun _ _ _ _ _ h=>h) (HS.o _ GD) ?_
   repeat (refine tNc (v:=?_) rfl (by rfl) ?_ ?_;rotate_left;(· (intro w' hSw;(try dsimp only at hSw);obtain⟨hs0,hs1,hs2,hs3,hs4,hs5⟩:=hSw;go_simp<;>with_reducible rfl));try simp only [Act.put,lzA,lzB,lzC,lzD,lzE,lzF])
   refine tEc ?_
   refine bPc 6 7 (by kernel_rfl) rfl rfl ?_ ?_
   ·intro K HK
    try simp only [lzA,lzB,lzC]
    go_simp
    obtain⟨wy,hwy⟩:∃y:World,y=wd.alloc (.cells #[.int .i64 5,.int .i64 m.deed,.int .i64 m.house,.slice none 0 0] 95):=⟨_,rfl⟩
    obtain⟨BY,hBY⟩:∃y,y=wd.heap.size:=⟨_,rfl⟩
    have HMO:Hid (OwnC Ty.ms (fun _=>none) wy wz.heap.size 95 (.slice (some ⟨BY,0,none⟩) 1 1) [⟨5,m.deed,m.house,[]⟩]):=η (by rw [hwy,hBY];exact one_msg (by unfold I64;decide) HMI.o.2.1 HMI.o.2.2 _ (by have:=HB6.o;have:=GD.size;omega))
    have GY:Grow wd wy:=by rw [hwy];exact(Grow.refl _).alloc _
    rw [←hwy,←hBY]
    clear hwy hBY
    refine HK.o _ _ ⟨.inr (HS.o _ (GD.trans GY)),?_⟩
    clear HK K
    try simp only [Act.put,lzA,lzB,lzC,lzD,lzE,lzF]
    refine bOc 7 (by kernel_rfl) rfl ?_
    intro K HK
    refine wanted_go rfl ?_
    try simp only [lzA,lzB,lzC]
    refine wp_store_row (.tmp 4) (.tmp 85) rfl rfl rfl (row_grow R43.o (GD.trans GY)) info_hd rfl rfl ?_
    intro w7 r7 g7
    have HX7:=η ((HR3.o.later (GD.trans GY)).past G1.o g7 (by have:=HZ.o;omega))
    have R67:=η (row_by (row_grow R63.o (GD.trans GY)) g7 (fun e=>by have:=Option.some.inj e;have:=HB6.o;have:=HZ.o;omega))
    have RM7:=η (row_by (row_grow RM3.o (GD.trans GY)) g7 (fun e=>by have:=Option.some.inj e;omega))
    have HMO2:=η (HMO.o.kept g7 (off_of fun q hq=>by have:=(HMO.o.lt q hq).1;have:=HZ.o;omega))
    obtain⟨p0,p1,p2,p3⟩:=cells4 r7
    refine HK.o _ _ ⟨.inr (by obtain⟨j0,j1,j2,j3⟩:=cells4 R67.o;obtain⟨-,k1,k2,-⟩:=cells4 RM7.o;exact⟨j0,j1,j2,j3,k1,k2⟩),?_⟩
    clear HK K
    try simp only [Act.put]
    refine bOc 8 (by kernel_rfl) rfl ?_
    intro K HK
    try simp only [lzA,lzB,lzC]
    go_simp
    refine HK.o _ _ ⟨.inl (by decide),?_⟩
    clear HK K
    try simp only [Act.put,lzA,lzB,lzC,lzD,lzE,lzF]
    refine bDc (by kernel_rfl) ?_
    go_wp2
    refine bodyPost_ret (v:=.tuple #[.agg #[.slice ag h.log.length cg,.int .i64 h.boot,.int .i64 h.next,.slice ao L.length co],.slice (some ⟨BY,0,none⟩) 1 1]) (by simp [results,Tryz.results69,go_sem,p0,p1,p2,p3]) rfl ?_
    exact⟨_,_,rfl,HX7.o.fin HIB.o.1 HIB.o.2 HE.o (by rw [HMS.o];exact HMO2.o.slc (by decide) (fun _ _ e=>by cases e) fun a ha=>ov_new (by have:=HZ.o;omega))⟩
   ·intro K HK
    refine wanted_go rfl ?_
    try simp only [lzA,lzB,lzC]
    refine wp_store_row (.tmp 4) (.tmp 85) rfl rfl rfl (row_grow R43.o GD) info_hd rfl rfl ?_
    intro w7 r7 g7
    have HX7:=η ((HR3.o.later GD).past G1.o g7 (by have:=HZ.o;omega))
    have R67:=η (row_by (row_grow R63.o GD) g7 (fun e=>by have:=Option.some.inj e;have:=HB6.o;have:=HZ.o;omega))
    have RM7:=η (row_by (row_grow RM3.o GD) g7 (fun e=>by have:=Option.some.inj e;omega))
    refine HK.o _ _ ⟨.inr (by obtain⟨j0,j1,j2,j3⟩:=cells4 R67.o;obtain⟨-,k1,k2,-⟩:=cells4 RM7.o;exact⟨j0,j1,j2,j3,k1,k2⟩),?_⟩
    clear HK K
    try simp only [Act.put]
    refine bOc 6 (by kernel_rfl) rfl ?_
    intro K HK
    try simp only [lzA,lzB,lzC]
    go_simp
    obtain⟨wy,hwy⟩:∃y:World,y=w7.alloc (.cells #[.int .i64 5,.int .i64 m.deed,.int .i64 m.house,.slice none 0 0] 95):=⟨_,rfl⟩
    obtain⟨BY,hBY⟩:∃y,y=w7.heap.size:=⟨_,rfl⟩
    have HMO:Hid (OwnC Ty.ms (fun _=>none) wy wz.heap.size 95 (.slice (some ⟨BY,0,none⟩) 1 1) [⟨5,m.deed,m.house,[]⟩]):=η (by rw [hwy,hBY];exact one_msg (by unfold I64;decide) HMI.o.2.1 HMI.o.2.2 _ (by have:=HB6.o;have:=GD.size;have:=g7.size;omega))
    have GY:Grow w7 wy:=by rw [hwy];exact(Grow.refl _).alloc _
    rw [←hwy,←hBY]
    clear hwy hBY
    have HX9:=η (HX7.o.later GY)
    obtain⟨p0,p1,p2,p3⟩:=cells4 (row_grow r7 GY)
    refine HK.o _ _ ⟨.inr (by obtain⟨j0,j1,j2,j3⟩:=cells4 (row_grow R67.o GY);obtain⟨-,k1,k2,-⟩:=cells4 (row_grow RM7.o GY);exact⟨j0,j1,j2,j3,k1,k2⟩),?_⟩
    clear HK K
    try simp only [Act.put,lzA,lzB,lzC,lzD,lzE,lzF]
    refine bOc 8 (by kernel_rfl) rfl ?_
    intro K HK
    try simp only [lzA,lzB,lzC]
    go_simp
    refine HK.o _ _ ⟨.inl (by decide),?_⟩
    clear HK K
    try simp only [Act.put,lzA,lzB,lzC,lzD,lzE,lzF]
    refine bDc (by kernel_rfl) ?_
    go_wp2
    refine bodyPost_ret (v:=.tuple #[.agg #[.slice ag h.log.length cg,.int .i64 h.boot,.int .i64 h.next,.slice ao L.length co],.slice (some ⟨BY,0,none⟩) 1 1]) (by simp [results,Tryz.results69,go_sem,p0,p1,p2,p3]) rfl ?_
    exact⟨_,_,rfl,HX9.o.fin HIB.o.1 HIB.o.2 HE.o (by rw [HMS.o];exact HMO.o.slc (by decide) (fun _ _ e=>by cases e) fun a ha=>ov_new (by have:=HZ.o;omega))⟩
  ·have HMS:Hid (hHearM h m=[]):=η (by unfold hHearM;rw [HLN.o,if_neg hkd])
   have hk7:(m.kind==7)=false:=by simp [hkd]
   have hcs:m.kind=2∨m.kind=3∨m.kind=6∨(m.kind≠2∧m.kind≠3∧m.kind≠6):=by omega
   obtain⟨b2,b3,b6,hk2,hk3,hk6,hb⟩:∃b2 b3 b6:Bool,(m.kind==2)=b2∧(m.kind==3)=b3∧(m.kind==6)=b6∧((b2=true∧b3=false∧b6=false)∨(b2=false∧b3=true∧b6=false)∨(b2=false∧b3=false∧b6=true)∨(b2=false∧b3=false∧b6=false)):=
    ⟨_,_,_,rfl,rfl,rfl,by rcases hcs with h|h|h|⟨h,h',h''⟩<;>simp [*]⟩
   clear hkd hcs
   rcases hb with⟨rfl,rfl,rfl⟩|⟨rfl,rfl,rfl⟩|⟨rfl,rfl,rfl⟩|⟨rfl,rfl,rfl⟩
   all_goals
    go_upto_region 16 with fail
    go_wp2_with (first|(refine wpList_store_row rfl (.tmp 4) (.tmp 111) rfl rfl rfl R43.o info_hd rfl rfl ?_))
    intro w7 r7 g7
    obtain⟨p0,p1,p2,p3⟩:=cells4 r7
    go_wp2
    refine bodyPost_ret (v:=.tuple #[.agg #[.slice ag h.log.length cg,.int .i64 h.boot,.int .i64 h.next,.slice ao L.length co],.slice none 0 0]) (by simp [results,Tryz.results69,go_sem,p0,p1,p2,p3]) rfl ?_
    exact⟨_,_,rfl,(HR3.o.past G1.o g7 (by have:=HZ.o;omega)).fin HIB.o.1 HIB.o.2 HE.o (by rw [HMS.o];exact Sl.nil _ _)⟩
 |some k=>
  have hx:idxOf (fun o:Opn=>o.deed==m.deed) h.opn=k:=by rw [idxOf,hfi]
  have hkl:k<h.opn.length:=(List.findIdx?_eq_some_iff_getElem.1 hfi).1
  have hLl:L.length=h.opn.length:=by rw [←HL.o];simp
  obtain⟨x,hxk⟩:∃x,L[k]? =some x:=⟨_,List.getElem?_eq_getElem (by omega)⟩
  have hq:h.opn[k]? =some x.1:=by rw [←HL.o,List.getElem?_map,hxk];rfl
  obtain⟨hln,hdd⟩:=hearL_at1 hfi hq
  have HQM:=η (List.mem_of_getElem? hq)
  have HHH:Hid (hHearH h m={ h with opn:=h.opn.take k++((hearO x.1 m).1++h.opn.drop (k+1)),log:=h.log++(hearO x.1 m).2.1 }):=η (by unfold hHearH;rw [hln])
  have HHM:Hid (hHearM h m=(hearO x.1 m).2.2):=η (by unfold hHearM;rw [hln])
  have HSAME:Hid (h.opn.take k++([x.1]++h.opn.drop (k+1))=L.map (·.1)):=η (by
   have e2:h.opn[k]=x.1:=(List.getElem?_eq_some_iff.1 hq).2
   rw [←e2,List.singleton_append,←List.drop_eq_getElem_cons hkl,List.take_append_drop,HL.o])
  have HXK:=η hxk
  have HDD:=η hdd
  have HKL:=η hkl
  have HLL:=η hLl
  have HPR:=η (HII.o.parts _ HQM.o)
  have HFW:=η (HII.o.few _ HQM.o m.house)
  have h12:=HKK.o.opn
  rw [hx]
  clear hx hfi hq hln hdd hxk hLl
  have hk0:(0:Int)≤(k:Int):=by omega
  by_cases hkd:m.kind=2
  ·have hk2:(m.kind==2)=true:=by simp [hkd]
   have hk3:(m.kind==3)=false:=by simp [hkd]
   have hk6:(m.kind==6)=false:=by simp [hkd]
   have hk7:(m.kind==7)=false:=by simp [hkd]
   have HYO:Hid (hearO x.1 m=yesO x.1 m.house):=η (yesO_hear hkd)
   clear hkd
   have HLL2:Hid (h.log.length≤100000):=η HKK.o.log
   go_wp2_with fail
   refine(head_yes (house:=m.house) w3 HR3.o R63.o HXK.o HPR.o HMI.o.2.2 HLL2.o (by have:=HLL.o;omega) (HKK.o.heard _ HQM.o) HFW.o).mono ?_
   rintro e w4 ⟨v4,rfl,vl4,vo4,L4,r4,hr4,hmp,hms,hsz⟩
   obtain⟨ag4,cg4,ao4,co4,rfl,rfl⟩:=hr4.form
   obtain⟨a4,c4,rfl,-⟩:=id hms
   have HR4:=η hr4
   have HMP:=η hmp
   have HMS:=η hms
   have HSZ:=η hsz
   have R64:=η r4
   have R44:=η (row_grow R4.o hr4.grow)
   clear hr4 hmp hms hsz r4
   clear d0 d1 d2 d3 m0 m1 m2 m3 z6 zm zr
   obtain⟨d0,d1,d2,d3⟩:=cells4 R64.o
   have z6:B6<w4.heap.size:=(γ R64.o)
   have zr:w.heap.size+2<w4.heap.size:=(γ R44.o)
   generalize hlg:h.log++(yesO x.1 m.house).2.1=lg4 at*
   have HLG:=η hlg
   clear hlg
   generalize hmq:(yesO x.1 m.house).2.2=ms4 at*
   have HMQ:=η hmq
   clear hmq
   go_wp2_with (first|(refine wpList_store_row rfl (.tmp 4) (.tmp 28) rfl rfl rfl R44.o info_hd rfl rfl ?_))
   intro w7 r7 g7
   obtain⟨p0,p1,p2,p3⟩:=cells4 r7
   go_wp2
   refine bodyPost_ret (v:=.tuple #[.agg #[.slice ag4 lg4.length cg4,.int .i64 h.boot,.int .i64 h.next,.slice ao4 L4.length co4],.slice a4 ms4.length c4]) (by simp [results,Tryz.results69,go_sem,p0,p1,p2,p3]) rfl ?_
   have z:=HZ.o
   have z2:=HB6.o
   have z3:=HSZ.o
   refine⟨_,_,rfl,(HR4.o.past G1.o g7 (by omega)).fin HIB.o.1 HIB.o.2 (by rw [HHH.o,HYO.o,HLG.o,←HL.o,←HMP.o]) ?_⟩
   rw [HHM.o,HYO.o,HMQ.o]
   refine Sl.mono (fun a v e=>?_) HMS.o
   unfold ov at e
   split at e
   ·cases e
   ·rw [ov_new (by omega),by_cell g7 (World.block_lt_of_cell? w4 a e) (by omega)];exact e
  have hkd2:=hkd
  clear hkd
  by_cases hkd:m.kind=6
  ·have hk2:(m.kind==2)=false:=by simp [hkd]
   have hk3:(m.kind==3)=false:=by simp [hkd]
   have hk6:(m.kind==6)=true:=by simp [hkd]
   have hk7:(m.kind==7)=false:=by simp [hkd]
   have HYO:Hid (hearO x.1 m=ackO x.1 m.house):=η (ackO_hear hkd)
   clear hkd
   have HLL2:Hid (h.log.length≤100000):=η HKK.o.log
   go_wp2_with fail
   refine(head_ack (house:=m.house) w3 HR3.o R63.o HXK.o HPR.o HMI.o.2.2 HLL2.o (by have:=HLL.o;omega) (HKK.o.heard _ HQM.o) HFW.o).mono ?_
   rintro e w4 ⟨rfl,vl4,vo4,L4,r4,hr4,hmp,-,hsz⟩
   obtain⟨ag4,cg4,ao4,co4,rfl,rfl⟩:=hr4.form
   have HR4:=η hr4
   have HMP:=η hmp
   have HSZ:=η hsz
   have R64:=η r4
   have R44:=η (row_grow R4.o hr4.grow)
   have RM4:Hid (w4.heap[w.heap.size+1]? =some (.cells #[.int .i64 m.kind,.int .i64 m.deed,.int .i64 m.house,.slice ap m.parts.length cp] 95 (0,0))):=η (row_grow RMZ.o hr4.grow)
   clear hr4 hmp hsz r4
   clear d0 d1 d2 d3 m0 m1 m2 m3 z6 zm zr
   obtain⟨d0,d1,d2,d3⟩:=cells4 R64.o
   have z6:B6<w4.heap.size:=(γ R64.o)
   have zr:w.heap.size+2<w4.heap.size:=(γ R44.o)
   obtain⟨m0,m1,m2,m3⟩:=cells4 RM4.o
   have zm:w.heap.size+1<w4.heap.size:=(γ RM4.o)
   generalize hlg:h.log++(ackO x.1 m.house).2.1=lg4 at*
   have HLG:=η hlg
   clear hlg
   go_upto_region 16 with fail
   go_wp2_with (first|(refine wpList_store_row rfl (.tmp 4) (.tmp 111) rfl rfl rfl R44.o info_hd rfl rfl ?_))
   intro w7 r7 g7
   obtain⟨p0,p1,p2,p3⟩:=cells4 r7
   go_wp2
   refine bodyPost_ret (v:=.tuple #[.agg #[.slice ag4 lg4.length cg4,.int .i64 h.boot,.int .i64 h.next,.slice ao4 L4.length co4],.slice none 0 0]) (by simp [results,Tryz.results69,go_sem,p0,p1,p2,p3]) rfl ?_
   have z:=HZ.o
   have z2:=HB6.o
   have z3:=HSZ.o
   refine⟨_,_,rfl,(HR4.o.past G1.o g7 (by omega)).fin HIB.o.1 HIB.o.2 (by rw [HHH.o,HYO.o,HLG.o,←HL.o,←HMP.o]) ?_⟩
   rw [HHM.o,HYO.o,ackO_says]
   exact Sl.nil _ _
  obtain⟨q,xv⟩:=x
  dsimp only at HQM HHH HHM HSAME HDD HPR HFW
  obtain⟨g,vp,e1,hg1,hg2,g0,g1,g2,g3,-,hP,-⟩:=HR3.o.at_ rfl HXK.o
  subst e1
  obtain⟨a7,c7,rfl,-⟩:=id hP
  dsimp only at g0 g1 g2 g3 hP
  have HP:=η hP
  have HKN2:=η hkd2
  have HKN6:=η hkd
  have hk2:(m.kind==2)=false:=by simp [hkd2]
  have hk6:(m.kind==6)=false:=by simp [hkd]
  obtain⟨t,ht⟩:∃t,t=q.dec:=⟨_,rfl⟩
  rw [←ht] at g2
  have HT:=η ht
  have hkll:k<L.length:=by have:=HLL.o;have:=HKL.o;omega
  clear ht hkd2 g0 g3 hP
  clear hkd
  by_cases hkd:m.kind=3
  ·have hk3:(m.kind==3)=true:=by simp [hkd]
   have hk7:(m.kind==7)=false:=by simp [hkd]
   cases t with
   |true=>
    have HYO:Hid (hearO q m=([q],[],[])):=η (by unfold hearO;rw [if_neg (by rw [hkd];simp),if_neg (by rw [←HT.o];simp),if_neg (by rw [hkd];simp),if_neg (by rw [hkd];simp)])
    have HE:Hid (hHearH h m=⟨h.log,h.boot,h.next,L.map (·.1)⟩):=η (by rw [HHH.o,HYO.o,List.append_nil,HSAME.o])
    have HMS:Hid (hHearM h m=[]):=η (by rw [HHM.o,HYO.o])
    clear hkd g1
    go_upto_region 16 with fail
    go_wp2_with (first|(refine wpList_store_row rfl (.tmp 4) (.tmp 111) rfl rfl rfl R43.o info_hd rfl rfl ?_))
    intro w7 r7 g7
    obtain⟨p0,p1,p2,p3⟩:=cells4 r7
    go_wp2
    refine bodyPost_ret (v:=.tuple #[.agg #[.slice ag h.log.length cg,.int .i64 h.boot,.int .i64 h.next,.slice (some ⟨g,0,none⟩) L.length co],.slice none 0 0]) (by simp [results,Tryz.results69,go_sem,p0,p1,p2,p3]) rfl ?_
    exact⟨_,_,rfl,(HR3.o.past G1.o g7 (by have:=HZ.o;omega)).fin HIB.o.1 HIB.o.2 HE.o (by rw [HMS.o];exact Sl.nil _ _)⟩
   |false=>
    have HYO:Hid (hearO q m=([],[],abortsE q.deed q.parts)):=η (by unfold hearO;rw [if_neg (by rw [hkd];simp),if_pos ⟨hkd,HT.o.symm⟩])
    have HDL:=η (delete_oph (k:=k) HR3.o.opn (by have:=HLL.o;have:=HKL.o;omega))
    have hk12:(k:Int)+1≤13:=by have:=HKL.o;omega
    have hw1:IntKind.i64.wrap ((k:Int)+1)=(k:Int)+1:=IntWalk.i64_in _ (by omega)
    clear hkd
    go_upto_region 8 with fail
    go_wp2_with fail
    (with_reducible refine HDL.o.mono ?_)
    rintro e w4 ⟨rfl,ho4,hg4⟩
    have HN4:=η (HR3.o.erase (k:=k) (vo':=.slice (some ⟨g,0,none⟩) (L.length - 1) co) hg4 rfl ho4)
    have HNE:Hid (some B6≠some g):=η (fun e=>by rcases HR3.o.ok.off (i:=0) (j:=2) rfl rfl (by decide) with h|h;exact absurd h (by simp);exact h e)
    have R64:=η (row_by R63.o hg4 HNE.o)
    have RM4:=η (row_grow RMZ.o HN4.o.grow)
    have HP4:=η (HP.o.mono (fr_step fun p hp h0 hx=>⟨hg4.block p hp (fun e=>hx (by rw [e];simp [hro,Value.ownBlock])),hx⟩))
    clear ho4 hg4 HDL hw1 hk12 hkll d0 d1 d2 d3 m0 m1 m2 m3 z6 zm zr g1 g2
    obtain⟨d0,d1,d2,d3⟩:=cells4 R64.o
    have z6:B6<w4.heap.size:=(γ R64.o)
    go_wp2_with (first|(refine wpList_store_cell rfl (.tmp 59) (.tmp 58) (v:=.slice (some ⟨g,0,none⟩) (L.length - 1) co) (new:=#[.slice ag h.log.length cg,.int .i64 h.boot,.int .i64 h.next,.slice (some ⟨g,0,none⟩) (L.length - 1) co]) rfl rfl (by rfl) (by rfl) R64.o info_opns (by simp) (by rfl) (by rfl) ?_))
    intro w5 r5 g5
    have HN5:=η (HN4.o.box g5)
    have R65:=η r5
    have RM5:=η (row_grow RMZ.o HN5.o.grow)
    have R45:=η (row_grow R4.o HN5.o.grow)
    have HP5:=η ((HP4.o.mono (fr_step fun p hp h0 hx=>⟨g5.block p hp (fun e=>hx (by rw [e];simp [hro])),hx⟩)).mono (fr_sub _ _ _))
    have HAB:=η (fun(W:World) (hW:Grow w5 W)=>head_aborts (d:=m.deed) W (HP5.o.mono hW.sub) HMI.o.2.1 HPR.o)
    clear HS r5 g5 d0 d1 d2 d3 z6
    have HS:Hid (∀W,Grow w5 W→W.cell? ⟨B6,0,none⟩=some (.slice ag h.log.length cg)∧W.cell? ⟨B6,1,none⟩=some (.int .i64 h.boot)∧W.cell? ⟨B6,2,none⟩=some (.int .i64 h.next)∧W.cell? ⟨B6,3,none⟩=some (.slice (some ⟨g,0,none⟩) (L.length - 1) co)∧W.cell? ⟨w.heap.size+1,1,none⟩=some (.int .i64 m.deed)):=fun W hW=>by
     obtain⟨j0,j1,j2,j3⟩:=cells4 (row_grow R65.o hW)
     obtain⟨-,k1,-,-⟩:=cells4 (row_grow RM5.o hW)
     exact⟨j0,j1,j2,j3,k1⟩
    go_upto_region 9 with fail
    refine bSc (fun w'=>w'.cell? ⟨B6,0,none⟩=some (.slice ag h.log.length cg)∧w'.cell? ⟨B6,1,none⟩=some (.int .i64 h.boot)∧w'.cell? ⟨B6,2,none⟩=some (.int .i64 h.next)∧w'.cell? ⟨B6,3,none⟩=some (.slice (some ⟨g,0,none⟩) (L.length - 1) co)∧w'.cell? ⟨w.heap.size+1,1,none⟩=some (.int .i64 m.deed)) [5,6] (by kernel_rfl) ?_
    intro wd GD zD
    have ZD:=η zD
    clear zD
    refine bLc [0,1,2,3] 9 (by kernel_rfl) (fun _ _ _ _ _ h=>h) (HS.o _ GD) ?_
    repeat (refine tNc (v:=?_) rfl (by rfl) ?_ ?_;rotate_left;(· (intro w' hSw;(try dsimp only at hSw);obtain⟨hs0,hs1,hs2,hs3,hs4⟩:=hSw;go_simp<;>with_reducible rfl));try simp only [Act.put,lzA,lzB,lzC,lzD,lzE,lzF])
    refine tEc ?_
    refine bOc 4 (by kernel_rfl) rfl ?_
    intro K HK
    try simp only [lzA,lzB,lzC]
    go_simp
    go_at_call 76
    refine(HAB.o _ GD).mono ?_
    rintro e w6 ⟨v6,rfl,ho6,hb6⟩
    obtain⟨a6,c6,rfl⟩:=ho6.form
    have HO6:=η ho6
    have G6:=η (Grow.trans GD hb6)
    clear ho6 hb6
    generalize hmq:abortsE m.deed q.parts=ms4 at*
    have HMQ:=η hmq
    clear hmq
    refine HK.o _ _ ⟨.inr (HS.o _ G6.o),?_⟩
    clear HK K
    try simp only [Act.put,lzA,lzB,lzC,lzD,lzE,lzF]
    refine bOc 5 (by kernel_rfl) rfl ?_
    intro K HK
    refine wanted_go rfl ?_
    try simp only [lzA,lzB,lzC]
    refine wp_store_row (.tmp 4) (.tmp 60) rfl rfl rfl (row_grow R45.o G6.o) info_hd rfl rfl ?_
    intro w7 r7 g7
    obtain⟨p0,p1,p2,p3⟩:=cells4 r7
    refine HK.o _ _ ⟨.inl (by decide),?_⟩
    clear HK K
    try simp only [Act.put]
    refine bOc 6 (by kernel_rfl) rfl ?_
    intro K HK
    try simp only [lzA,lzB,lzC]
    go_simp
    refine HK.o _ _ ⟨.inl (by decide),?_⟩
    clear HK K
    try simp only [Act.put,lzA,lzB,lzC,lzD,lzE,lzF]
    refine bDc (by kernel_rfl) ?_
    go_wp2
    refine bodyPost_ret (v:=.tuple #[.agg #[.slice ag h.log.length cg,.int .i64 h.boot,.int .i64 h.next,.slice (some ⟨g,0,none⟩) (L.length - 1) co],.slice a6 ms4.length c6]) (by simp [results,Tryz.results69,go_sem,p0,p1,p2,p3]) rfl ?_
    have z:=HZ.o
    refine⟨_,_,rfl,((HN5.o.later G6.o).past G1.o g7 (by omega)).fin HIB.o.1 HIB.o.2 ?_ ?_⟩
    ·rw [HHH.o,HYO.o,List.append_nil,List.eraseIdx_eq_take_drop_succ,List.map_append,List.map_take,List.map_drop,HL.o];rfl
    ·rw [HHM.o,HYO.o,HDD.o,HMQ.o]
     have z5:=HN5.o.grow.size
     have z6:=GD.size
     exact(HO6.o.kept g7 (off_of fun p hp=>by have:=(HO6.o.lt p hp).1;omega)).slc (by decide) (fun _ _ e=>by cases e) fun a ha=>ov_new (by omega)
  have hk3:(m.kind==3)=false:=by simp [hkd]
  have HKN3:=η hkd
  clear hkd
  by_cases hkd:m.kind=7
  ·have hk7:(m.kind==7)=true:=by simp [hkd]
   cases t with
   |true=>
    have HYO:Hid (hearO q m=([q],[],[⟨4,m.deed,m.house,[]⟩])):=η (by unfold hearO;rw [if_neg (fun e=>HKN2.o e.1),if_neg (fun e=>HKN3.o e.1),if_neg (fun e=>HKN6.o e.1),if_pos ⟨hkd,HT.o.symm⟩])
    have HE:Hid (hHearH h m=⟨h.log,h.boot,h.next,L.map (·.1)⟩):=η (by rw [HHH.o,HYO.o,List.append_nil,HSAME.o])
    have HMS:Hid (hHearM h m=[⟨4,m.deed,m.house,[]⟩]):=η (by rw [HHM.o,HYO.o])
    clear hkd g1
    go_upto_region 15 with fail
    clear g2 hg1 hg2
    clear d0 d1 d2 d3 m0 m1 m2 m3 z6 zm zr
    refine bSc (fun w'=>w'.cell? ⟨B6,0,none⟩=some (.slice ag h.log.length cg)∧w'.cell? ⟨B6,1,none⟩=some (.int .i64 h.boot)∧w'.cell? ⟨B6,2,none⟩=some (.int .i64 h.next)∧w'.cell? ⟨B6,3,none⟩=some (.slice (some ⟨g,0,none⟩) L.length co)∧w'.cell? ⟨w.heap.size+1,1,none⟩=some (.int .i64 m.deed)∧w'.cell? ⟨w.heap.size+1,2,none⟩=some (.int .i64 m.house)) [8] (by kernel_rfl) ?_
    intro wd GD zD
    have ZD:=η zD
    clear zD
    refine bLc [0,1,2,3,4,5] 11 (by kernel_rfl) (fun _ _ _ _ _ h=>h) (HS.o _ GD) ?_
    repeat (refine tNc (v:=?_) rfl (by rfl) ?_ ?_;rotate_left;(· (intro w' hSw;(try dsimp only at hSw);obtain⟨hs0,hs1,hs2,hs3,hs4,hs5⟩:=hSw;go_simp<;>with_reducible rfl));try simp only [Act.put,lzA,lzB,lzC,lzD,lzE,lzF])
    refine tEc ?_
    refine bPc 6 7 (by kernel_rfl) rfl rfl ?_ ?_
    ·intro K HK
     try simp only [lzA,lzB,lzC]
     go_simp
     obtain⟨wy,hwy⟩:∃y:World,y=wd.alloc (.cells #[.int .i64 4,.int .i64 m.deed,.int .i64 m.house,.slice none 0 0] 95):=⟨_,rfl⟩
     obtain⟨BY,hBY⟩:∃y,y=wd.heap.size:=⟨_,rfl⟩
     have HMO:Hid (OwnC Ty.ms (fun _=>none) wy wz.heap.size 95 (.slice (some ⟨BY,0,none⟩) 1 1) [⟨4,m.deed,m.house,[]⟩]):=η (by rw [hwy,hBY];exact one_msg (by unfold I64;decide) HMI.o.2.1 HMI.o.2.2 _ (by have:=HB6.o;have:=GD.size;omega))
     have GY:Grow wd wy:=by rw [hwy];exact(Grow.refl _).alloc _
     rw [←hwy,←hBY]
     clear hwy hBY
     refine HK.o _ _ ⟨.inr (HS.o _ (GD.trans GY)),?_⟩
     clear HK K
     try simp only [Act.put,lzA,lzB,lzC,lzD,lzE,lzF]
     refine bOc 7 (by kernel_rfl) rfl ?_
     intro K HK
     refine wanted_go rfl ?_
     try simp only [lzA,lzB,lzC]
     refine wp_store_row (.tmp 4) (.tmp 104) rfl rfl rfl (row_grow R43.o (GD.trans GY)) info_hd rfl rfl ?_
     intro w7 r7 g7
     have HX7:=η ((HR3.o.later (GD.trans GY)).past G1.o g7 (by have:=HZ.o;omega))
     have R67:=η (row_by (row_grow R63.o (GD.trans GY)) g7 (fun e=>by have:=Option.some.inj e;have:=HB6.o;have:=HZ.o;omega))
     have RM7:=η (row_by (row_grow RM3.o (GD.trans GY)) g7 (fun e=>by have:=Option.some.inj e;omega))
     have HMO2:=η (HMO.o.kept g7 (off_of fun q hq=>by have:=(HMO.o.lt q hq).1;have:=HZ.o;omega))
     obtain⟨p0,p1,p2,p3⟩:=cells4 r7
     refine HK.o _ _ ⟨.inr (by obtain⟨j0,j1,j2,j3⟩:=cells4 R67.o;obtain⟨-,k1,k2,-⟩:=cells4 RM7.o;exact⟨j0,j1,j2,j3,k1,k2⟩),?_⟩
     clear HK K
     try simp only [Act.put]
     refine bOc 8 (by kernel_rfl) rfl ?_
     intro K HK
     try simp only [lzA,lzB,lzC]
     go_simp
     refine HK.o _ _ ⟨.inl (by decide),?_⟩
     clear HK K
     try simp only [Act.put,lzA,lzB,lzC,lzD,lzE,lzF]
     refine bDc (by kernel_rfl) ?_
     go_wp2
     refine bodyPost_ret (v:=.tuple #[.agg #[.slice ag h.log.length cg,.int .i64 h.boot,.int .i64 h.next,.slice (some ⟨g,0,none⟩) L.length co],.slice (some ⟨BY,0,none⟩) 1 1]) (by simp [results,Tryz.results69,go_sem,p0,p1,p2,p3]) rfl ?_
     exact⟨_,_,rfl,HX7.o.fin HIB.o.1 HIB.o.2 HE.o (by rw [HMS.o];exact HMO2.o.slc (by decide) (fun _ _ e=>by cases e) fun a ha=>ov_new (by have:=HZ.o;omega))⟩
    ·intro K HK
     refine wanted_go rfl ?_
     try simp only [lzA,lzB,lzC]
     refine wp_store_row (.tmp 4) (.tmp 104) rfl rfl rfl (row_grow R43.o GD) info_hd rfl rfl ?_
     intro w7 r7 g7
     have HX7:=η ((HR3.o.later GD).past G1.o g7 (by have:=HZ.o;omega))
     have R67:=η (row_by (row_grow R63.o GD) g7 (fun e=>by have:=Option.some.inj e;have:=HB6.o;have:=HZ.o;omega))
     have RM7:=η (row_by (row_grow RM3.o GD) g7 (fun e=>by have:=Option.some.inj e;omega))
     refine HK.o _ _ ⟨.inr (by obtain⟨j0,j1,j2,j3⟩:=cells4 R67.o;obtain⟨-,k1,k2,-⟩:=cells4 RM7.o;exact⟨j0,j1,j2,j3,k1,k2⟩),?_⟩
     clear HK K
     try simp only [Act.put]
     refine bOc 6 (by kernel_rfl) rfl ?_
     intro K HK
     try simp only [lzA,lzB,lzC]
     go_simp
     obtain⟨wy,hwy⟩:∃y:World,y=w7.alloc (.cells #[.int .i64 4,.int .i64 m.deed,.int .i64 m.house,.slice none 0 0] 95):=⟨_,rfl⟩
     obtain⟨BY,hBY⟩:∃y,y=w7.heap.size:=⟨_,rfl⟩
     have HMO:Hid (OwnC Ty.ms (fun _=>none) wy wz.heap.size 95 (.slice (some ⟨BY,0,none⟩) 1 1) [⟨4,m.deed,m.house,[]⟩]):=η (by rw [hwy,hBY];exact one_msg (by unfold I64;decide) HMI.o.2.1 HMI.o.2.2 _ (by have:=HB6.o;have:=GD.size;have:=g7.size;omega))
     have GY:Grow w7 wy:=by rw [hwy];exact(Grow.refl _).alloc _
     rw [←hwy,←hBY]
     clear hwy hBY
     have HX9:=η (HX7.o.later GY)
     obtain⟨p0,p1,p2,p3⟩:=cells4 (row_grow r7 GY)
     refine HK.o _ _ ⟨.inr (by obtain⟨j0,j1,j2,j3⟩:=cells4 (row_grow R67.o GY);obtain⟨-,k1,k2,-⟩:=cells4 (row_grow RM7.o GY);exact⟨j0,j1,j2,j3,k1,k2⟩),?_⟩
     clear HK K
     try simp only [Act.put,lzA,lzB,lzC,lzD,lzE,lzF]
     refine bOc 8 (by kernel_rfl) rfl ?_
     intro K HK
     try simp only [lzA,lzB,lzC]
     go_simp
     refine HK.o _ _ ⟨.inl (by decide),?_⟩
     clear HK K
     try simp only [Act.put,lzA,lzB,lzC,lzD,lzE,lzF]
     refine bDc (by kernel_rfl) ?_
     go_wp2
     refine bodyPost_ret (v:=.tuple #[.agg #[.slice ag h.log.length cg,.int .i64 h.boot,.int .i64 h.next,.slice (some ⟨g,0,none⟩) L.length co],.slice (some ⟨BY,0,none⟩) 1 1]) (by simp [results,Tryz.results69,go_sem,p0,p1,p2,p3]) rfl ?_
     exact⟨_,_,rfl,HX9.o.fin HIB.o.1 HIB.o.2 HE.o (by rw [HMS.o];exact HMO.o.slc (by decide) (fun _ _ e=>by cases e) fun a ha=>ov_new (by have:=HZ.o;omega))⟩
   |false=>
    have HYO:Hid (hearO q m=([q],[],[])):=η (by unfold hearO;rw [if_neg (fun e=>HKN2.o e.1),if_neg (fun e=>HKN3.o e.1),if_neg (fun e=>HKN6.o e.1),if_neg (fun e=>by have:=e.2;rw [←HT.o] at this;cases this)])
    have HE:Hid (hHearH h m=⟨h.log,h.boot,h.next,L.map (·.1)⟩):=η (by rw [HHH.o,HYO.o,List.append_nil,HSAME.o])
    have HMS:Hid (hHearM h m=[]):=η (by rw [HHM.o,HYO.o])
    clear hkd g1
    go_upto_region 16 with fail
    go_wp2_with (first|(refine wpList_store_row rfl (.tmp 4) (.tmp 111) rfl rfl rfl R43.o info_hd rfl rfl ?_))
    intro w7 r7 g7
    obtain⟨p0,p1,p2,p3⟩:=cells4 r7
    go_wp2
    refine bodyPost_ret (v:=.tuple #[.agg #[.slice ag h.log.length cg,.int .i64 h.boot,.int .i64 h.next,.slice (some ⟨g,0,none⟩) L.length co],.slice none 0 0]) (by simp [results,Tryz.results69,go_sem,p0,p1,p2,p3]) rfl ?_
    exact⟨_,_,rfl,(HR3.o.past G1.o g7 (by have:=HZ.o;omega)).fin HIB.o.1 HIB.o.2 HE.o (by rw [HMS.o];exact Sl.nil _ _)⟩
  have hk7:(m.kind==7)=false:=by simp [hkd]
  have HYO:Hid (hearO q m=([q],[],[])):=η (by unfold hearO;rw [if_neg (fun e=>HKN2.o e.1),if_neg (fun e=>HKN3.o e.1),if_neg (fun e=>HKN6.o e.1),if_neg (fun e=>hkd e.1)])
  have HE:Hid (hHearH h m=⟨h.log,h.boot,h.next,L.map (·.1)⟩):=η (by rw [HHH.o,HYO.o,List.append_nil,HSAME.o])
  have HMS:Hid (hHearM h m=[]):=η (by rw [HHM.o,HYO.o])
  clear hkd g1 g2
  go_upto_region 16 with fail
  go_wp2_with (first|(refine wpList_store_row rfl (.tmp 4) (.tmp 111) rfl rfl rfl R43.o info_hd rfl rfl ?_))
  intro w7 r7 g7
  obtain⟨p0,p1,p2,p3⟩:=cells4 r7
  go_wp2
  refine bodyPost_ret (v:=.tuple #[.agg #[.slice ag h.log.length cg,.int .i64 h.boot,.int .i64 h.next,.slice (some ⟨g,0,none⟩) L.length co],.slice none 0 0]) (by simp [results,Tryz.results69,go_sem,p0,p1,p2,p3]) rfl ?_
  exact⟨_,_,rfl,(HR3.o.past G1.o g7 (by have:=HZ.o;omega)).fin HIB.o.1 HIB.o.2 HE.o (by rw [HMS.o];exact Sl.nil _ _)⟩
theorem compact_spec (d:Array Int) (hs:∀i j,i≤j→j<d.size→d[i]! ≤d[j]!):∀m,m≤d.size→(Lib.compactUpTo d m).Pairwise (· < ·)∧∀x,x∈Lib.compactUpTo d m↔∃j,j<m∧d[j]! =x
 |0,_=>⟨by simp [Lib.compactUpTo],fun x=>by simp [Lib.compactUpTo]⟩
 |m+1,hm=>by
  obtain⟨h1,h2⟩:=compact_spec d hs m (by omega)
  rw [Lib.compactUpTo_succ]
  by_cases hk:Lib.keeps d m=true
  ·rw [if_pos hk]
   have hlt:∀x∈Lib.compactUpTo d m,x<d[m]!:=fun x hx=>by
    obtain⟨j,hj,rfl⟩:=(h2 x).1 hx
    have a:=hs j (m - 1) (by omega) (by omega)
    have b:=hs (m - 1) m (by omega) (by omega)
    have c:d[m]! ≠d[m - 1]!:=by
     unfold Lib.keeps at hk
     rcases of_decide_eq_true hk with e|e
     ·omega
     ·exact e
    omega
   refine⟨?_,fun x=>?_⟩
   ·rw [List.pairwise_append]
    exact⟨h1,by simp,fun a ha b hb=>by simp only [List.mem_singleton] at hb;subst hb;exact hlt a ha⟩
   ·rw [List.mem_append,h2,List.mem_singleton]
    constructor
    ·rintro(⟨j,hj,e⟩|e)
     ·exact⟨j,by omega,e⟩
     ·exact⟨m,by omega,e.symm⟩
    ·rintro⟨j,hj,e⟩
     by_cases hjm:j=m
     ·subst hjm;exact .inr e.symm
     ·exact .inl ⟨j,by omega,e⟩
  ·rw [if_neg hk,List.append_nil]
   refine⟨h1,fun x=>?_⟩
   rw [h2]
   have hk':¬(m=0∨d[m]! ≠d[m - 1]!):=by
    intro h
    exact hk (by unfold Lib.keeps;exact decide_eq_true h)
   have e0:m≠0:=fun e=>hk' (.inl e)
   have e1:d[m]! =d[m - 1]!:=by
    rcases Classical.em (d[m]! =d[m - 1]!) with h|h
    ·exact h
    ·exact absurd (.inr h) hk'
   constructor
   ·rintro⟨j,hj,e⟩;exact⟨j,by omega,e⟩
   ·rintro⟨j,hj,e⟩
    by_cases hjm:j=m
    ·subst hjm;exact⟨j - 1,by omega,by rw [←e1];exact e⟩
    ·exact⟨j,by omega,e⟩
theorem sort_once (l:List Int):(Lib.compact (l.mergeSort fun x y=>decide (x≤y))).Pairwise (· < ·)∧∀x,x∈Lib.compact (l.mergeSort fun x y=>decide (x≤y))↔x∈l:=by
 have hp:(l.mergeSort fun x y=>decide (x≤y)).Pairwise fun a b=>decide (a≤b)=true:=
  List.pairwise_mergeSort (fun a b c h1 h2=>by simp only [decide_eq_true_eq] at*;omega) (fun a b=>by simp only [Bool.or_eq_true,decide_eq_true_eq];omega) l
 have hm:∀x,x∈(l.mergeSort fun x y=>decide (x≤y))↔x∈l:=fun x=>List.mem_mergeSort
 generalize (l.mergeSort fun x y=>decide (x≤y))=s at hp hm
 have hs:∀i j,i≤j→j<s.toArray.size→s.toArray[i]! ≤s.toArray[j]!:=fun i j hij hj=>by
  have hj':j<s.length:=by simpa using hj
  rw [getElem!_pos s.toArray j hj,getElem!_pos s.toArray i (by omega)]
  by_cases e:i=j
  ·subst e;exact Int.le_refl _
  ·have:=List.pairwise_iff_getElem.1 hp i j (by omega) hj' (by omega)
   simpa using this
 obtain⟨h1,h2⟩:=compact_spec s.toArray hs s.length (by simp)
 refine⟨h1,fun x=>?_⟩
 rw [←hm]
 show x∈Lib.compactUpTo s.toArray s.length↔_
 rw [h2,List.mem_iff_getElem]
 constructor
 ·rintro⟨j,hj,e⟩
  rw [getElem!_pos s.toArray j (by simpa using hj)] at e
  exact⟨j,hj,by simpa using e⟩
 ·rintro⟨j,hj,e⟩
  exact⟨j,hj,by rw [getElem!_pos s.toArray j (by simpa using hj)];simpa using e⟩
def openReady (hs:List Hs):List Int:=hs.flatMap fun h=>h.ready.map (·.deed)
def openAt (hs:List Hs) (r:Rd):List Int:=((housesE r.parts).filter fun n=>!decide (r.deed∈(hs.getD n.toNat hs0).done)).map fun _=>r.deed
def openDec (hs:List Hs) (D:List Rd):List Int:=D.flatMap (openAt hs)
theorem open_all {n:Nat} {G:Reg} {w:AW} (i:WI n G w):Lib.compact ((openReady w.houses++openDec w.houses (decidedR w.head.log)).mergeSort fun x y=>decide (x≤y))=opensE w:=by
 obtain⟨h1,h2⟩:=sort_once (openReady w.houses++openDec w.houses (decidedR w.head.log))
 refine sorted_ext h1 ?_ fun x=>?_
 ·unfold opensE
  refine List.Pairwise.filter _ ?_
  rw [List.pairwise_map]
  exact List.pairwise_lt_range.imp fun h=>by omega
 ·rw [h2,List.mem_append]
  have key:isOpen w x=true↔(x∈openReady w.houses∨x∈openDec w.houses (decidedR w.head.log)):=by
   unfold isOpen
   rw [Bool.or_eq_true]
   refine or_congr ?_ ?_
   ·unfold openReady readyE
    rw [List.any_eq_true,List.mem_flatMap]
    constructor
    ·rintro⟨h,hh,hx⟩
     obtain⟨r,hr,e⟩:=List.any_eq_true.1 hx
     exact⟨h,hh,List.mem_map.2 ⟨r,hr,by simpa [isD] using e⟩⟩
    ·rintro⟨h,hh,hx⟩
     obtain⟨r,hr,e⟩:=List.mem_map.1 hx
     exact⟨h,hh,List.any_eq_true.2 ⟨r,hr,by simpa [isD] using e⟩⟩
   ·unfold openDec
    rw [List.any_eq_true,List.mem_flatMap]
    have hl:=i.core.len
    have h3:=i.core.n3
    constructor
    ·rintro⟨r,hr,hx⟩
     rw [Bool.and_eq_true,List.any_eq_true] at hx
     obtain⟨e,k,hk,hx⟩:=hx
     rw [Bool.and_eq_true] at hx
     have hk':=List.mem_range.1 hk
     have e':r.deed=x:=by simpa using e
     refine⟨r,hr,List.mem_map.2 ⟨(k:Int),List.mem_filter.2 ⟨houses_mem.2 ⟨by omega,fun e0=>by have:=hx.1;rw [e0] at this;simp at this⟩,?_⟩,e'⟩⟩
     rw [e'];exact hx.2
    ·rintro⟨r,hr,hx⟩
     obtain⟨k,hk,e⟩:=List.mem_map.1 hx
     obtain⟨hk,hd⟩:=List.mem_filter.1 hk
     have hw:wrongE r.parts n=0:=(i.core.reg.ok _ (i.core.dec.reg r hr)).2
     have hb:=houses_lt hw hk
     have hm:=houses_mem.1 hk
     refine⟨r,hr,?_⟩
     rw [Bool.and_eq_true,List.any_eq_true]
     refine⟨by simpa using e,k.toNat,List.mem_range.2 (by omega),?_⟩
     rw [Bool.and_eq_true,show((k.toNat:Nat):Int)=k by omega]
     refine⟨?_,by rw [←e];exact hd⟩
     cases ho:ofL r.parts k with
     |nil=>exact absurd ho hm.2
     |cons a b=>rfl
  constructor
  ·intro hx
   have hx':=key.2 hx
   unfold opensE
   refine List.mem_filter.2 ⟨?_,hx'⟩
   have hd:∃P,(x,P)∈G:=by
    rcases hx with hx|hx
    ·obtain⟨h,hh,hx⟩:=List.mem_flatMap.1 hx
     obtain⟨r,hr,rfl⟩:=List.mem_map.1 hx
     obtain⟨j,hj⟩:=List.mem_iff_getElem?.1 hh
     obtain⟨P,hP,-⟩:=(i.core.house j h hj).reg r hr
     exact⟨P,hP⟩
    ·obtain⟨r,hr,hx⟩:=List.mem_flatMap.1 hx
     obtain⟨k,-,rfl⟩:=List.mem_map.1 hx
     exact⟨_,i.core.dec.reg r hr⟩
   obtain⟨P,hP⟩:=hd
   have:=i.core.deed hP
   exact List.mem_map.2 ⟨x.toNat,List.mem_range.2 (by omega),by omega⟩
  ·intro hx
   unfold opensE at hx
   exact key.1 (List.mem_filter.1 hx).2
def wholeGo (D:List Rd) (k:Int):List Int→Sm→List Int→Option Sm
 |_,s,[]=>some s
 |pre,s,d::ds=>match D.find? (isD d) with
  |none=>none
  |some r=>if d∈pre∨ofL r.parts k=[] then none else wholeGo D k (pre++ [d]) (doP s (ofL r.parts k)) ds
theorem whole_go {D:List Rd} {k:Int} (hD:(D.map (·.deed)).Nodup):∀(ds pre:List Int) (s:Sm),(pre++ds).Nodup→(∀d∈ds,∃r∈D,r.deed=d∧ofL r.parts k≠ [])→
  wholeGo D k pre s ds=some (ds.foldl (fun s d=>match D.find? (isD d) with|some r=>doP s (ofL r.parts k)|none=>s) s)
 | [],_,_,_,_=>rfl
 |d::ds,pre,s,hn,h=>by
  obtain⟨r,hr,e,hne⟩:=h d List.mem_cons_self
  have hf:D.find? (isD d)=some r:=by rw [←e];exact find_dec hD hr
  have hnp:d∉pre:=fun hp=>by
   rw [List.nodup_append] at hn
   exact hn.2.2 d hp d List.mem_cons_self rfl
  rw [wholeGo,hf]
  simp only
  rw [if_neg (by rintro(h1|h1);exact hnp h1;exact hne h1),whole_go hD ds (pre++ [d]) _ (by rw [List.append_assoc];exact hn) (fun x hx=>h x (List.mem_cons_of_mem _ hx)),List.foldl_cons,hf]
theorem HI.whole {G:Reg} {D:List Rd} {k:Int} {h:Hs} (hi:HI G D k h) (hd:DecOk G D):wholeGo D k [] ⟨0,0,0,0⟩ h.done=some h.sums:=by
 rw [whole_go hd.nd h.done [] _ hi.nodup hi.done,hi.sums]
 rfl
def rdAt (hs:List Hs) (x:Int):Prop:=∃h∈hs,readyE h.ready x=true
def dcAt (hs:List Hs) (r:Rd) (j:Nat):Prop:=∃k h,k<j∧hs[k]? =some h∧ofL r.parts k≠ []∧r.deed∉h.done
def dcAll (hs:List Hs) (D:List Rd) (x:Int):Prop:=∃r∈D,r.deed=x∧dcAt hs r hs.length
theorem isOpen_iff {w:AW} {x:Int}:isOpen w x=true↔rdAt w.houses x∨dcAll w.houses (decidedR w.head.log) x:=by
 unfold isOpen rdAt dcAll dcAt
 rw [Bool.or_eq_true,List.any_eq_true,List.any_eq_true]
 refine or_congr Iff.rfl ⟨?_,?_⟩
 ·rintro⟨r,hr,h⟩
  rw [Bool.and_eq_true,List.any_eq_true] at h
  obtain⟨e,k,hk,h2⟩:=h
  rw [Bool.and_eq_true] at h2
  have hk':=List.mem_range.1 hk
  refine⟨r,hr,by simpa using e,k,w.houses[k],hk',List.getElem?_eq_getElem hk',fun e0=>by rw [e0] at h2;simp at h2,?_⟩
  have h3:=h2.2
  rw [List.getD_eq_getElem?_getD,List.getElem?_eq_getElem hk'] at h3
  have e':r.deed=x:=by simpa using e
  rw [e'];simpa using h3
 ·rintro⟨r,hr,e,k,h,hk,hh,h1,h2⟩
  refine⟨r,hr,?_⟩
  rw [Bool.and_eq_true,List.any_eq_true]
  refine⟨by simpa using e,k,List.mem_range.2 hk,?_⟩
  rw [Bool.and_eq_true,List.getD_eq_getElem?_getD,hh]
  refine⟨?_,by rw [←e];simpa using h2⟩
  cases ho:ofL r.parts k with
  |nil=>exact absurd ho h1
  |cons a b=>rfl
def playE:AW→List St→List Int
 |_,[]=>[]
 |w,s::l=>doErr w s::playE (doA w s) l
theorem playE_len:∀(l:List St) (w:AW),(playE w l).length=l.length
 | [],_=>rfl
 |s::l,w=>by rw [playE,List.length_cons,List.length_cons,playE_len l]
theorem playE_snoc:∀(l:List St) (w:AW) (s:St),playE w (l++ [s])=playE w l++ [doErr (playA w l) s]
 | [],w,s=>rfl
 |t::l,w,s=>by
  rw [List.cons_append,playE,playE,playE_snoc l]
  rfl
theorem playA_snoc (l:List St) (w:AW) (s:St):playA w (l++ [s])=doA (playA w l) s:=by unfold playA;rw [List.foldl_append];rfl
theorem playA_next {l:List St} {j:Nat} (h:j<l.length) (w:AW):playA w (l.take (j+1))=doA (playA w (l.take j)) l[j]:=by
 rw [List.take_succ_eq_append_getElem h,playA_snoc]
theorem playE_next {l:List St} {j:Nat} (h:j<l.length) (w:AW):playE w (l.take (j+1))=playE w (l.take j)++ [doErr (playA w (l.take j)) l[j]]:=by
 rw [List.take_succ_eq_append_getElem h,playE_snoc]
end Go.Proofs.YthfgeelcbcgahaaGreatDoor
namespace Go.Proofs.YthfgeelcbcgahaaGreatDoor
open Go.RowKit Go.Shelf Go.Sort
theorem own_sort' {w:World} {base:Nat} {v:Value} {l:List Int} (h:w.ownsRow base 3 1 v l.length (l.flatMap intCell)) (hs:l.length<4611686018427387904):
  Calls Tryz.prog 49 #[v] w fun e w'=>e=.returned (.tuple #[])∧w'.ownsRow base 3 1 v (l.mergeSort fun x y=>decide (x≤y)).length ((l.mergeSort fun x y=>decide (x≤y)).flatMap intCell)∧w.grownBy w' v.ownBlock:=by
 by_cases hne:l=[]
 ·subst hne
  obtain⟨hl,⟨rfl,-⟩|⟨g,cap,cur,rfl,hg,hrow,hnc,hcm,hcs,htake⟩⟩:=id h
  ·exact(Any.slices_Sort_int_none Tryz.lays189 none 0 w).mono fun e w' ⟨he,hw⟩=>⟨he,by rw [hw,List.mergeSort_nil];exact h,by rw [hw];exact grownBy_of_grow (Grow.refl w) _⟩
  ·exact(Any.slices_Sort_int_none Tryz.lays189 (some ⟨g,0,none⟩) cap w).mono fun e w' ⟨he,hw⟩=>⟨he,by rw [hw,List.mergeSort_nil];exact h,by rw [hw];exact grownBy_of_grow (Grow.refl w) _⟩
 ·obtain⟨g,hv,-,hc⟩:=own_sort h hne hs
  rw [hv]
  exact hc
theorem compact_len (l:List Int):(Lib.compact l).length≤l.length:=by
 have:∀(d:Array Int) (m:Nat),(Lib.compactUpTo d m).length≤m:=by
  intro d m
  induction m with
  |zero=>simp [Lib.compactUpTo]
  |succ m ih=>
   rw [Lib.compactUpTo_succ]
   split
   ·rw [List.length_append];simp;omega
   ·rw [List.append_nil];omega
 exact this l.toArray l.length
theorem own_compact {w:World} {base:Nat} {v:Value} {l:List Int} (h:w.ownsRow base 3 1 v l.length (l.flatMap intCell)) (hs:l.length<4611686018427387904):
  Calls Tryz.prog 50 #[v] w fun e w'=>∃v',e=.returned v'∧w'.ownsRow base 3 1 v' (Lib.compact l).length ((Lib.compact l).flatMap intCell)∧w.grownBy w' v.ownBlock:=by
 obtain⟨hl,⟨rfl,hn⟩|⟨g,cap,cur,rfl,hg,hrow,hnc,hcm,hcs,htake⟩⟩:=id h
 ·have:l=[]:=List.eq_nil_of_length_eq_zero hn
  subst this
  exact(Tryz.slices_Compact_int_empty none 0 w).mono fun e w' ⟨he,hw⟩=>⟨_,he,by rw [hw];exact h,by rw [hw];exact grownBy_of_grow (Grow.refl w) _⟩
 ·have ht:cur.toList.take l.length=l.map (Value.int .i64):=by rw [←flat_ints,←htake,Nat.mul_one]
  have hcl:=compact_len l
  have hgr:∀W:World,Go.Sort.grow W #[]=W:=fun W=>by cases W;simp [Go.Sort.grow]
  refine(Tryz.slices_Compact_int g 0 cap l w (holds_of_blockI hrow ht) (by omega) hnc).mono fun e w' ⟨he,q,hw⟩=>⟨_,he,?_,?_⟩
  ·have e9:(Lib.compact l++List.replicate (l.length - (Lib.compact l).length) 0).length=l.length:=by simp;omega
   have h9:=ownsRow_sortedI (n:=q) (os:=#[]) (ss:=l) e9 hg hrow hnc hcm hcs
   have h8:=owns_less (m:=(Lib.compact l).length) h9 hcl
   rw [hw,flat_ints]
   rw [Nat.mul_one,List.map_append,List.take_left' (by simp)] at h8
   rw [hgr] at h8
   exact h8
  ·rw [hw]
   have h7:=grownBy_sortedI (w:=w) (g:=g) (n:=q) (os:=#[]) (Lib.compact l++List.replicate (l.length - (Lib.compact l).length) 0).toArray
   rw [hgr] at h7
   exact h7
end Go.Proofs.YthfgeelcbcgahaaGreatDoor
namespace Go.Proofs.YthfgeelcbcgahaaGreatDoor
open Go.RowKit
def LogP (l:List Rc):Prop:=∀r∈l,r.kind=5∨r.parts=[]
theorem LogP.app {l t:List Rc} (h:LogP l) (k:LogP t):LogP (l++t):=fun r hr=>(List.mem_append.1 hr).elim (h r) (k r)
theorem logP_hearO (o:Opn) (m:Ms):LogP (hearO o m).2.1:=by
 intro r hr
 unfold hearO at hr
 split at hr
 ·split at hr
  ·simp only [List.mem_singleton] at hr;rw [hr];exact .inl rfl
  ·simp at hr
 ·split at hr
  ·simp at hr
  ·split at hr
   ·split at hr
    ·simp only [List.mem_singleton] at hr;rw [hr];exact .inr rfl
    ·simp at hr
   ·split at hr<;>simp at hr
theorem logP_hearL {m:Ms}:∀{l:List Opn} {x:List Opn×List Rc×List Ms},hearL m l=some x→LogP x.2.1
 | [],x,h=>by simp [hearL] at h
 |o::l,x,h=>by
  rw [hearL] at h
  split at h
  ·rw [←Option.some.inj h];exact logP_hearO o m
  ·cases e:hearL m l with
   |none=>rw [e] at h;cases h
   |some y=>
    rw [e] at h
    rw [←Option.some.inj h]
    have h9:=logP_hearL e
    exact h9
theorem logP_hHear {h:Hd} (m:Ms) (hk:LogP h.log):LogP (hHearH h m).log:=by
 unfold hHearH
 split
 ·exact hk
 ·rename_i x e
  exact hk.app (logP_hearL e)
theorem logP_fall {h:Hd} (hk:LogP h.log):LogP (fallH h).log:=by
 unfold fallH
 split
 ·exact hk
 ·rw [headR_log]
  exact hk.app fun r hr=>by simp only [List.mem_singleton] at hr;rw [hr];exact .inr rfl
theorem logP_come {w:AW} (m:Ms) (h:LogP w.head.log):LogP (comeA w m).head.log:=by
 unfold comeA
 split
 ·exact h
 ·split
  ·exact h
  ·exact logP_hHear m h
theorem logP_step {w:AW} (h:LogP w.head.log) (s:St):LogP (doA w s).head.log:=by
 unfold doA
 split
 ·split
  ·show LogP (beginH w.head s.parts).log
   rw [begin_log];exact h
  ·exact h
 ·split
  ·split
   ·exact logP_come _ h
   ·exact h
  ·split
   ·split<;>exact h
   ·split
    ·split<;>exact h
    ·split
     ·split
      ·exact logP_fall h
      ·exact h
     ·split
      ·split
       ·unfold tickA
        split
        ·exact h
        ·split<;>exact h
       ·exact h
      ·split<;>exact h
theorem logP_play:∀(l:List St) {w:AW},LogP w.head.log→LogP (playA w l).head.log
 | [],_,h=>h
 |s::l,_,h=>logP_play l (logP_step h s)
theorem logP_new (n:Nat):LogP (newA n).head.log:=by
 show LogP (headR _).log
 rw [headR_log]
 intro r hr
 simp only [List.mem_singleton] at hr
 rw [hr];exact .inr rfl
theorem logP_len {n:Nat} {G:Reg} {x:AW} (i:WI n G x) (h:LogP x.head.log):∀r∈x.head.log,r.parts.length≤4:=fun r hr=>by
 rcases h r hr with h5|h0
 ·exact(wrong_ok (i.core.reg.ok _ (i.core.dec.reg ⟨r.deed,r.parts⟩ (List.mem_map.2 ⟨r,List.mem_filter.2 ⟨hr,by simp [h5]⟩,rfl⟩))).2).2.1
 ·rw [h0];simp
theorem OwnC.toInts {c:CM} {w:World} {base e:Nat} {v:Value} {l:List Int} (h:OwnC Ty.int c w base e v l):w.ownsRow base e 1 v l.length (l.flatMap intCell):=by
 obtain⟨css,h1,h2,h3⟩:=h
 have:css=l.map intCell:=by
  apply List.ext_getElem?
  intro i
  rw [List.getElem?_map]
  by_cases hi:i<l.length
  ·have a:=List.getElem?_eq_getElem (l:=css) (i:=i) (by omega)
   have b:=List.getElem?_eq_getElem (l:=l) (i:=i) hi
   rw [a,b]
   have:=(h3 i _ _ a b).1
   simp [this,intCell]
  ·rw [List.getElem?_eq_none (by omega),List.getElem?_eq_none (by omega)];rfl
 rw [this,←List.flatMap_def] at h1
 exact h1
theorem keep_rg {wB w5 wr w':World} {row:Option Nat} (h:Sub (ov (fun _=>none) wB w5) wr.cell?) (hg:wr.grownBy w' row) (hr:∀q,row=some q→q<wB.heap.size∨w5.heap.size≤q):Sub (ov (fun _=>none) wB w5) w'.cell?:=fun a v e=>by
 have e2:=h a v e
 have hlt:=World.block_lt_of_cell? wr a e2
 unfold ov at e
 split at e
 ·cases e
 ·have h5:=World.block_lt_of_cell? w5 a e
  rw [World.cell?_of_block (hg.block a.block hlt (fun e9=>by have:=hr _ e9.symm;omega))]
  exact e2
theorem ptsR_of {l:List Pt} {n:Nat} (hn:n≤3) (h:wrongE l n=0):PtsR l where
 ne:=fun e=>by have:=(wrong_ok h).1;rw [e] at this;simp at this
 lt:=fun p hp=>by have:=(wrong_ok h).2.2.1 p hp;omega
 len:=(wrong_ok h).2.1
theorem WI.hdinv {n:Nat} {G:Reg} {x:AW} (i:WI n G x) (h:LogP x.head.log):HdInv x.head where
 parts:=fun o ho=>ptsR_of i.core.n3.2 (i.core.reg.ok _ (i.core.oreg o ho)).2
 few:=fun o ho k _ _=>(i.core.onew o ho).2.2
 logp:=fun r hr=>by have:=logP_len i h r hr;omega
theorem ov_frs {w W W':World} {X:List (Option Nat)} (hg:Grow w W) (hX:∀q,some q∈X→q<W.heap.size):Sub (ov (fun _=>none) W W') (fr w W' X):=fun a v e=>by
 have hs:=hg.size
 unfold ov at e
 split at e
 ·cases e
 ·rw [fr_new (by omega) (fun hm=>by have:=hX _ hm;omega)]
  exact e
theorem fr_by {w W W':World} {X:List (Option Nat)} {q:Nat} (hg:W.grownBy W' (some q)) (hq:some q∈X):Sub (fr w W X) (fr w W' X):=
 fr_step fun k hk _ hx=>⟨hg.block k hk fun e=>hx (e▸hq),hx⟩
end Go.Proofs.YthfgeelcbcgahaaGreatDoor
