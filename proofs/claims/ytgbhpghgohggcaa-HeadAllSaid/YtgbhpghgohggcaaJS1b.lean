/- The parts that laws are proved of, joined: S2, W4, S3, W5, S5, Q1, QA, C1, R2, B1, B5, Y0, Z1, Str, Z2, Y2, Y1, S4, M2, V1, V2, M3, M4, R3, B2, Y6, Y3, Y5, Y7, Dfn, R1, R4, Y4, Win, Y8, E2, R5, R6, R7, R8, B4, R9, R10, Lit, A4, A2, K17, Z3, Z5, Z6, M5, S6, M6, Dfn2, M7, E4, Q2, Q3, Q4, Q5, Q6. No condition beside those that each theorem names. -/
import Derived.Laws.BitsAllLaws
import Derived.Laws.Bits64
import Derived.Laws.BytesArg
import Derived.Lib.SlBytesRow
import Derived.Sort.OwnSortedInts
import Derived.Test.YtgbhpghgohggcaaShelf
import Derived.IntWalk
import Derived.Deep.Cut
import Derived.Deep.DeepCutAuto
import Derived.Laws.CopyRow
import Derived.Test.YtgbhpghgohggcaaJS1a
namespace Go.Proofs.Ytgbhpghgohggcaa
open Go.RowKit
def housesE (l:List Pt):List Int:=[0,1,2].filter fun n=>l.any fun p=>p.h==n
def commitM (o:Opn) (n:Int):Ms:=if o.dec then⟨4,o.deed,n,[]⟩ else⟨1,o.deed,n,ofL o.parts n⟩
def asksE (o:Opn):List Ms:=((housesE o.parts).filter fun n=>!decide (n∈o.heard)).map (commitM o)
def abortsE (d:Int) (l:List Pt):List Ms:=(housesE l).map fun n=>⟨5,d,n,[]⟩
def headStep (h:Hd) (r:Rc):Hd:=
 if r.kind=4 then { h with boot:=wrap64 (h.boot+1) }
 else if r.kind=5 then { h with opn:=h.opn++ [⟨r.deed,r.parts,true,[]⟩] }
 else if r.kind=6 then { h with opn:=h.opn.filter fun o=>!(o.deed==r.deed) }
 else h
def headR (l:List Rc):Hd:=l.foldl headStep ⟨l,0,0,[]⟩
def decidedR (l:List Rc):List Rd:=(l.filter fun r=>r.kind==5).map fun r=>⟨r.deed,r.parts⟩
def fallH (h:Hd):Hd:=if 19<h.boot then h else headR (h.log++ [⟨4,0,[]⟩])
def fallE (h:Hd):Int:=if 19<h.boot then 5 else 0
def fullE (h:Hd):Bool:=decide (11<h.opn.length∨63<h.next)
def newO (h:Hd) (l:List Pt):Opn:=⟨64*h.boot+h.next,l,false,[]⟩
def beginH (h:Hd) (l:List Pt):Hd:=if fullE h=true then h else { h with opn:=h.opn++ [newO h l],next:=h.next+1 }
def beginM (h:Hd) (l:List Pt):List Ms:=if fullE h=true then [] else asksE (newO h l)
def beginE (h:Hd):Int:=if fullE h=true then 9 else 0
def hearO (o:Opn) (m:Ms):List Opn×List Rc×List Ms:=
 if m.kind=2∧o.dec=false∧m.house∈housesE o.parts∧m.house∉o.heard then
  (if o.heard.length+1=(housesE o.parts).length then([{ o with dec:=true,heard:=[] }],[⟨5,o.deed,o.parts⟩],asksE { o with dec:=true,heard:=[] })
  else([{ o with heard:=o.heard++ [m.house] }],[],[]))
 else if m.kind=3∧o.dec=false then([],[],abortsE o.deed o.parts)
 else if m.kind=6∧o.dec=true∧m.house∈housesE o.parts∧m.house∉o.heard then
  (if o.heard.length+1=(housesE o.parts).length then([],[⟨6,o.deed,[]⟩],[]) else([{ o with heard:=o.heard++ [m.house] }],[],[]))
 else if m.kind=7∧o.dec=true then([o],[],[⟨4,m.deed,m.house,[]⟩])
 else([o],[],[])
def hearL (m:Ms):List Opn→Option (List Opn×List Rc×List Ms)
 | []=>none
 |o::l=>if o.deed=m.deed then some ((hearO o m).1++l,(hearO o m).2) else(hearL m l).map fun x=>(o::x.1,x.2)
def hHearH (h:Hd) (m:Ms):Hd:=match hearL m h.opn with
 |none=>h
 |some x=>{ h with opn:=x.1,log:=h.log++x.2.1 }
def hHearM (h:Hd) (m:Ms):List Ms:=match hearL m h.opn with
 |none=>if m.kind=7 then [⟨5,m.deed,m.house,[]⟩] else []
 |some x=>x.2.2
def tickE (h:Hd):List Ms:=h.opn.flatMap asksE
def quitH (h:Hd):Hd:={ h with opn:=h.opn.filter fun o=>o.dec }
def quitM (h:Hd):List Ms:=(h.opn.filter fun o=>!o.dec).flatMap fun o=>abortsE o.deed o.parts
end Go.Proofs.Ytgbhpghgohggcaa
namespace Go.Proofs.Ytgbhpghgohggcaa
def keysOf (l:List Rd):List Int:=l.flatMap fun r=>r.parts.map (·.k)
theorem keysOf_cons (x:Rd) (l:List Rd):keysOf (x::l)=x.parts.map (·.k)++keysOf l:=by simp [keysOf]
theorem keysOf_snoc (l:List Rd) (x:Rd):keysOf (l++ [x])=keysOf l++x.parts.map (·.k):=by simp [keysOf]
theorem hasKey_mem {key:Int} {x:Rd}:hasKey key x=true↔key∈x.parts.map (·.k):=by
 unfold hasKey
 rw [List.any_eq_true,List.mem_map]
 constructor
 ·rintro⟨p,hp,h⟩;exact⟨p,hp,by simpa using h⟩
 ·rintro⟨p,hp,h⟩;exact⟨p,hp,by simpa using h⟩
theorem who_keys {key:Int}:∀{l:List Rd},(∀x∈l,0≤x.deed)→(whoE l key<0↔key∉keysOf l)
 | [],_=>by simp [whoE,keysOf]
 |x::l,hp=>by
  have ih:=who_keys (l:=l) (key:=key) fun y hy=>hp y (List.mem_cons_of_mem _ hy)
  have hx:=hp x List.mem_cons_self
  rw [who_cons,keysOf_cons,List.mem_append,←hasKey_mem]
  by_cases h:hasKey key x=true
  ·simp [h];exact hx
  ·simp only [h,if_false,false_or,Bool.false_eq_true];exact ih
theorem keysOf_erase (p:Rd→Bool):∀l:List Rd,(keysOf (l.eraseP p)).Sublist (keysOf l)
 | []=>List.Sublist.refl _
 |x::l=>by
  by_cases h:p x=true
  ·rw [List.eraseP_cons_of_pos h,keysOf_cons];exact List.sublist_append_right _ _
  ·rw [List.eraseP_cons_of_neg h,keysOf_cons,keysOf_cons];exact(keysOf_erase p l).append_left _
theorem who_deed {key:Int}:∀{l:List Rd},(keysOf l).Nodup→∀r∈l,key∈r.parts.map (·.k)→whoE l key=r.deed
 |x::l,hn,r,hr,hk=>by
  rw [keysOf_cons,List.nodup_append] at hn
  obtain⟨h1,h2,h3⟩:=hn
  rw [who_cons]
  rcases List.mem_cons.1 hr with rfl|hr
  ·rw [if_pos (hasKey_mem.2 hk)]
  ·have hk2:key∈keysOf l:=List.mem_flatMap.2 ⟨r,hr,hk⟩
   rw [if_neg (fun h=>h3 _ (hasKey_mem.1 h) _ hk2 rfl)]
   exact who_deed h2 r hr hk
structure Calm (h:Hs):Prop where
 made:Made h
 fine:Fine h.ready
 apart:(keysOf h.ready).Nodup
theorem calm_zero:Calm ⟨[],⟨0,0,0,0⟩,[],[]⟩:=⟨rfl,⟨by simp,by simp⟩,by simp [keysOf]⟩
theorem nodup_keys {l:List Pt} {h:Int} (hn:(l.map fun p=>(p.h,p.k)).Nodup) (ha:∀p∈l,p.h=h):(l.map (·.k)).Nodup:=by
 have e:(l.map fun p=>(p.h,p.k))=(l.map (·.k)).map fun k=>(h,k):=by
  rw [List.map_map]
  exact List.map_congr_left fun p hp=>by simp [ha p hp]
 rw [e] at hn
 refine List.Pairwise.of_map _ (fun a b hab he=>hab (by rw [he])) hn
theorem free_none {l:List Rd} (hp:∀x∈l,0≤x.deed) {ps:List Pt} (h:freeE l ps=true):∀p∈ps,p.k∉keysOf l:=by
 rw [free_all,List.all_eq_true] at h
 intro p hm
 exact(who_keys hp).1 (by simpa using h p hm)
structure RightM (m:Ms):Prop where
 kind:1≤m.kind∧m.kind≤7
 deed:0≤m.deed∧m.deed≤1343
 house:0≤m.house∧m.house≤2
 none:m.kind≠1→m.parts=[]
 parts:m.kind=1→wrongE m.parts 3=0∧∀p∈m.parts,p.h=m.house
theorem right_m {m:Ms}:wrongM m=0↔RightM m:=by
 unfold wrongM
 constructor
 ·intro h
  split at h
  ·cases h
  split at h
  ·cases h
  split at h
  ·split at h
   ·exact⟨by omega,by omega,by omega,fun _=>‹_›,fun _=>by omega⟩
   ·cases h
  ·split at h
   ·split at h
    ·rename_i h1 h2
     exact⟨by omega,by omega,by omega,fun _=>by omega,fun _=>⟨h1,fun p hp=>by simpa using List.all_eq_true.1 h2 p hp⟩⟩
    ·cases h
   ·rename_i h1;exact absurd h h1
 ·rintro⟨h1,h2,h3,h4,h5⟩
  rw [if_neg (by omega),if_neg (by omega)]
  split
  ·rw [if_pos (h4 (by omega))]
  ·obtain⟨h6,h7⟩:=h5 (by omega)
   rw [if_pos h6,if_pos (List.all_eq_true.2 fun p hp=>by simpa using h7 p hp)]
theorem RightM.keys {m:Ms} (h:RightM m):KeysOk m.parts:=by
 by_cases hk:m.kind=1
 ·exact wrong_keys (h.parts hk).1
 ·rw [h.none hk];intro p hp;simp at hp
theorem calm_note {h:Hs} (hc:Calm h) {r:Rc} (hr:0≤r.deed) (h1:r.kind=1→(r.parts.map (·.k)).Nodup∧∀p∈r.parts,p.k∉keysOf h.ready):Calm (noteE h r):=by
 have e:=note_ready hc.made r
 refine⟨note_made _ _,by rw [e];exact fine_step hc.fine hr,?_⟩
 rw [e,step_ready]
 split
 ·split
  ·exact hc.apart.sublist (keysOf_erase _ _)
  ·exact hc.apart
 ·split
  ·rename_i hk
   obtain⟨h2,h3⟩:=h1 hk
   rw [keysOf_snoc,List.nodup_append]
   refine⟨hc.apart,h2,fun a ha b hb e=>?_⟩
   obtain⟨p,hp,rfl⟩:=List.mem_map.1 hb
   exact h3 p hp (e▸ha)
  ·exact hc.apart
theorem vote_free {h:Hs} {d:Int} {ps:List Pt} (hv:voteE h d ps=0) (hr:readyE h.ready d=false):freeE h.ready ps=true:=by
 unfold voteE at hv
 split at hv
 ·cases hv
 ·rw [if_neg (by simp [hr])] at hv
  split at hv
  ·cases hv
  ·rename_i h2;simpa using h2
theorem calm_hear {h:Hs} (hc:Calm h) {m:Ms} (hm:RightM m):Calm (hearH h m):=by
 unfold hearH
 split
 ·rename_i hk
  obtain⟨hw,hh⟩:=hm.parts hk
  split
  ·rename_i hv
   exact calm_note hc hm.deed.1 fun _=>⟨nodup_keys (wrong_ok hw).2.2.2 hh,free_none hc.fine.pos (vote_free hv.1 hv.2)⟩
  ·exact hc
 ·split
  ·split
   ·exact calm_note hc hm.deed.1 (by simp)
   ·exact hc
  ·split
   ·split
    ·exact calm_note hc hm.deed.1 (by simp)
    ·exact hc
   ·exact hc
structure AW where
 head:Hd
 houses:List Hs
 net:List Ms
def sendA (net ms:List Ms):List Ms:=net++ms.take (24 - net.length)
def hs0:Hs:=houseR []
def newA (n:Nat):AW:=⟨headR [⟨4,0,[]⟩],List.replicate n hs0,[]⟩
def forHouse (m:Ms):Bool:=decide (m.kind=1∨m.kind=4∨m.kind=5)
def comeA (w:AW) (m:Ms):AW:=
 match w.houses[m.house.toNat]? with
 |none=>w
 |some h=>if forHouse m=true then { w with houses:=w.houses.set m.house.toNat (hearH h m),net:=sendA w.net (hearM h m.house m) }
  else { w with head:=hHearH w.head m,net:=sendA w.net (hHearM w.head m) }
def tickA (w:AW) (n:Nat):AW:=
 if n=3 then { w with net:=sendA w.net (tickE w.head) }
 else match w.houses[n]? with
  |none=>w
  |some h=>{ w with net:=sendA w.net (hTickE h n) }
def there (w:AW) (n:Int):Bool:=decide (0≤n∧n<w.net.length)
def hereN (w:AW) (n:Int):Bool:=decide (0≤n∧n<w.houses.length)
def doA (w:AW) (s:St):AW:=
 if s.kind=1 then(if wrongE s.parts w.houses.length=0 then { w with head:=beginH w.head s.parts,net:=sendA w.net (beginM w.head s.parts) } else w)
 else if s.kind=2 then(if there w s.n=true then comeA { w with net:=w.net.eraseIdx s.n.toNat } (w.net.getD s.n.toNat ⟨0,0,0,[]⟩) else w)
 else if s.kind=3 then(if there w s.n=true then { w with net:=w.net.eraseIdx s.n.toNat } else w)
 else if s.kind=4 then(if there w s.n=true∧w.net.length<24 then { w with net:=w.net++ [w.net.getD s.n.toNat ⟨0,0,0,[]⟩] } else w)
 else if s.kind=5 then(if s.n=3 then { w with head:=fallH w.head } else w)
 else if s.kind=6 then(if s.n=3∨hereN w s.n=true then tickA w s.n.toNat else w)
 else if s.kind=7 then { w with head:=quitH w.head,net:=sendA w.net (quitM w.head) }
 else w
def doErr (w:AW) (s:St):Int:=
 if s.kind=1 then(if wrongE s.parts w.houses.length=0 then beginE w.head else wrongE s.parts w.houses.length)
 else if s.kind=2∨s.kind=3∨s.kind=4 then(if there w s.n=true then 0 else 6)
 else if s.kind=5 then(if s.n=3 then fallE w.head else if hereN w s.n=true then 0 else 6)
 else if s.kind=6 then(if s.n=3∨hereN w s.n=true then 0 else 6)
 else if s.kind=7 then 0
 else 1
def playA (w:AW) (l:List St):AW:=l.foldl doA w
abbrev Reg:=List (Int×List Pt)
theorem step_done (h:Hs) (r:Rc):(refStep h r).done=(match h.ready.find? (isD r.deed) with|none=>h.done|some _=>if r.kind=2 then h.done++ [r.deed] else h.done):=by
 unfold refStep
 rw [in_fold]
 cases hf:h.ready.find? (isD r.deed) with
 |none=>simp
 |some x=>simp
theorem step_sums (h:Hs) (r:Rc):(refStep h r).sums=(match h.ready.find? (isD r.deed) with|none=>h.sums|some x=>if r.kind=2 then doP h.sums x.parts else h.sums):=by
 unfold refStep
 rw [in_fold]
 cases hf:h.ready.find? (isD r.deed) with
 |none=>simp
 |some x=>simp
theorem note_done {h:Hs} (hm:Made h) (r:Rc):(noteE h r).done=(refStep h r).done:=by rw [note_step hm]
theorem ready_erase {l:List Rd} {d:Int} (hn:(l.map (·.deed)).Nodup):readyE (l.eraseP (isD d)) d=false:=by
 induction l with
 |nil=>rfl
 |cons x l ih=>
  rw [List.map_cons,List.nodup_cons] at hn
  by_cases h:isD d x=true
  ·rw [List.eraseP_cons_of_pos h]
   unfold readyE
   rw [List.any_eq_false]
   intro y hy hd
   have h1:x.deed=d:=by simpa [isD] using h
   have h2:y.deed=d:=by simpa [isD] using hd
   exact hn.1 (List.mem_map.2 ⟨y,hy,by rw [h1,h2]⟩)
  ·rw [List.eraseP_cons_of_neg h]
   have:=ih hn.2
   unfold readyE at this ⊢
   rw [List.any_cons,this]
   simpa using h
theorem ready_other {l:List Rd} {d e:Int} (h:readyE l d=true) (hne:e≠d):readyE (l.eraseP (isD e)) d=true:=by
 unfold readyE at h ⊢
 rw [List.any_eq_true] at h ⊢
 obtain⟨x,hx,hd⟩:=h
 refine⟨x,?_,hd⟩
 rw [List.mem_eraseP_of_neg]
 ·exact hx
 ·have:x.deed=d:=by simpa [isD] using hd
  simp [isD,this];exact fun e'=>hne e'.symm
theorem find_ready {l:List Rd} {d:Int} (h:readyE l d=true):∃x,l.find? (isD d)=some x:=by
 rw [readyE_find] at h
 exact Option.isSome_iff_exists.1 h
theorem find_unready {l:List Rd} {d:Int} (h:readyE l d=false):l.find? (isD d)=none:=by
 rw [readyE_find] at h
 simpa using h
theorem note1 {h:Hs} (hm:Made h) {d:Int} (ps:List Pt) (hr:readyE h.ready d=false):(noteE h ⟨1,d,ps⟩).ready=h.ready++ [⟨d,ps⟩]∧(noteE h ⟨1,d,ps⟩).done=h.done:=by
 rw [note_ready hm,note_done hm,step_ready,step_done]
 simp [find_unready hr]
theorem note2 {h:Hs} (hm:Made h) {d:Int} (hr:readyE h.ready d=true):(noteE h ⟨2,d,[]⟩).ready=h.ready.eraseP (isD d)∧(noteE h ⟨2,d,[]⟩).done=h.done++ [d]:=by
 obtain⟨x,hx⟩:=find_ready hr
 rw [note_ready hm,note_done hm,step_ready,step_done]
 simp [hx]
theorem note3 {h:Hs} (hm:Made h) {d:Int} (hr:readyE h.ready d=true):(noteE h ⟨3,d,[]⟩).ready=h.ready.eraseP (isD d)∧(noteE h ⟨3,d,[]⟩).done=h.done:=by
 obtain⟨x,hx⟩:=find_ready hr
 rw [note_ready hm,note_done hm,step_ready,step_done]
 simp [hx]
end Go.Proofs.Ytgbhpghgohggcaa
namespace Go.Proofs.Ytgbhpghgohggcaa
open Go.RowKit
def atK (k q:Int) (p:Pt):Bool:=p.h==k&&p.k==q
def has (k q:Int) (P:List Pt):Bool:=(P.find? (atK k q)).isSome
def amt (k q:Int) (P:List Pt):Int:=match P.find? (atK k q) with|some p=>p.n|none=>0
def tot (k q:Int):List Rd→Int
 | []=>0
 |r::D=>amt k q r.parts+tot k q D
theorem tot_app (k q:Int):∀A B:List Rd,tot k q (A++B)=tot k q A+tot k q B
 | [],B=>by simp [tot]
 |r::A,B=>by rw [List.cons_append,tot,tot,tot_app k q A B];omega
theorem amt_none {k q:Int} {P:List Pt} (h:has k q P=false):amt k q P=0:=by
 unfold has at h
 unfold amt
 cases hf:P.find? (atK k q) with
 |none=>rfl
 |some p=>rw [hf] at h;cases h
theorem has_mem {k q:Int} {P:List Pt}:has k q P=true↔∃p∈P,p.h=k∧p.k=q:=by
 unfold has
 rw [List.find?_isSome]
 constructor
 ·rintro⟨p,hp,h⟩
  simp only [atK,Bool.and_eq_true,beq_iff_eq] at h
  exact⟨p,hp,h⟩
 ·rintro⟨p,hp,h1,h2⟩
  exact⟨p,hp,by simp [atK,h1,h2]⟩
theorem amt_bound {n:Int} {P:List Pt} (hw:wrongE P n=0) (k q:Int):-1048576≤amt k q P∧amt k q P≤1048576:=by
 unfold amt
 cases hf:P.find? (atK k q) with
 |none=>simp
 |some p=>
  have:=(wrong_ok hw).2.2.1 p (List.mem_of_find?_eq_some hf)
  exact⟨by simp only;omega,by simp only;omega⟩
theorem tot_filter {k q:Int} {p:Rd→Bool}:∀{D:List Rd},(∀r∈D,p r=false→amt k q r.parts=0)→tot k q (D.filter p)=tot k q D
 | [],_=>rfl
 |r::D,h=>by
  have ih:=tot_filter (p:=p) (D:=D) fun x hx=>h x (List.mem_cons_of_mem _ hx)
  cases hp:p r with
  |true=>rw [List.filter_cons_of_pos hp,tot,tot,ih]
  |false=>
   rw [List.filter_cons_of_neg (by simp [hp]),tot,ih,h r List.mem_cons_self hp];omega
theorem keyFold_none {q:Int}:∀{l:List Pt} (x:Int),(∀p∈l,p.k≠q)→keyFold x l q=x
 | [],x,_=>rfl
 |p::l,x,h=>by
  show keyFold (if p.k=q then _ else x) l q=x
  rw [if_neg (h p List.mem_cons_self)]
  exact keyFold_none x fun r hr=>h r (List.mem_cons_of_mem _ hr)
theorem keyFold_find {q:Int}:∀{l:List Pt} (x:Int),(l.map (·.k)).Nodup→keyFold x l q=(match l.find? (fun p=>p.k==q) with|some p=>wrap64 (x+p.n)|none=>x)
 | [],x,_=>rfl
 |p::l,x,h=>by
  rw [List.map_cons,List.nodup_cons] at h
  show keyFold (if p.k=q then wrap64 (x+p.n) else x) l q=_
  by_cases hq:p.k=q
  ·rw [if_pos hq,List.find?_cons_of_pos (by simpa using hq)]
   exact keyFold_none _ fun r hr e=>h.1 (List.mem_map.2 ⟨r,hr,by rw [e,hq]⟩)
  ·rw [if_neg hq,List.find?_cons_of_neg (by simpa using hq)]
   exact keyFold_find x h.2
theorem ofL_keys {n:Int} {P:List Pt} (hw:wrongE P n=0) (k:Int):((ofL P k).map (·.k)).Nodup:=by
 refine nodup_keys (h:=k) ((wrong_ok hw).2.2.2.sublist ((List.filter_sublist).map _)) fun p hp=>?_
 unfold ofL at hp
 have:=(List.mem_filter.1 hp).2
 simpa using this
theorem ofL_find (P:List Pt) (k q:Int):(ofL P k).find? (fun p=>p.k==q)=P.find? (atK k q):=by
 unfold ofL
 rw [List.find?_filter]
 congr 1
 funext a
 by_cases h1:a.h=k<;>by_cases h2:a.k=q<;>simp [atK,h1,h2]
theorem ofL_ok {n:Int} {P:List Pt} (hw:wrongE P n=0) (k:Int):KeysOk (ofL P k):=fun p hp=>by
 unfold ofL at hp
 exact wrong_keys hw p (List.mem_filter.1 hp).1
theorem rightS_get {s:Sm}:rightS s=true↔∀q:Int,0≤q→q<4→0≤s.get q∧s.get q≤1048576:=by
 rw [rightS_iff]
 constructor
 ·intro h q h0 h1
  have:=h q.toNat (by omega)
  rwa [show((q.toNat:Nat):Int)=q by omega] at this
 ·intro h k hk
  exact h k (by omega) (by omega)
theorem doP_sum {n:Int} {P:List Pt} (hw:wrongE P n=0) {s:Sm} (hs:rightS s=true) (k:Int) {q:Int} (h0:0≤q) (h1:q<4):(doP s (ofL P k)).get q=s.get q+amt k q P:=by
 rw [doP_get _ _ (ofL_ok hw k) q h0 h1,keyFold_find _ (ofL_keys hw k),ofL_find]
 have hb:=amt_bound hw k q
 have hr:=rightS_get.1 hs q h0 h1
 unfold amt at hb ⊢
 cases hf:P.find? (atK k q) with
 |none=>simp
 |some p=>
  rw [hf] at hb
  simp only at hb ⊢
  unfold wrap64;omega
theorem fits_all {S:Int→Int}:∀{l:List Pt},fitsE S l=0↔∀p∈l,0≤wrap64 (S p.k+p.n)∧wrap64 (S p.k+p.n)≤1048576
 | []=>by simp [fitsE]
 |p::l=>by
  rw [fitsE]
  constructor
  ·intro h
   split at h
   ·cases h
   split at h
   ·cases h
   intro r hr
   rcases List.mem_cons.1 hr with rfl|hr
   ·omega
   ·exact fits_all.1 h r hr
  ·intro h
   have:=h p List.mem_cons_self
   rw [if_neg (by omega),if_neg (by omega)]
   exact fits_all.2 fun r hr=>h r (List.mem_cons_of_mem _ hr)
theorem fits_sum {n:Int} {P:List Pt} (hw:wrongE P n=0) {s:Sm} (hs:rightS s=true) (k:Int):fitsE s.get (ofL P k)=0↔∀q:Int,0≤q→q<4→0≤s.get q+amt k q P∧s.get q+amt k q P≤1048576:=by
 rw [fits_all]
 constructor
 ·intro h q h0 h1
  have hr:=rightS_get.1 hs q h0 h1
  have hb:=amt_bound hw k q
  unfold amt at hb ⊢
  cases hf:P.find? (atK k q) with
  |none=>simp only;omega
  |some p=>
   rw [hf] at hb
   simp only at hb ⊢
   have hp:=List.mem_of_find?_eq_some hf
   have ha:=List.find?_some hf
   simp only [atK,Bool.and_eq_true,beq_iff_eq] at ha
   have:=h p (by unfold ofL;exact List.mem_filter.2 ⟨hp,by simp [ha.1]⟩)
   rw [ha.2] at this
   unfold wrap64 at this
   omega
 ·intro h p hp
  have hk:=ofL_ok hw k p hp
  have hr:=rightS_get.1 hs p.k hk.1 hk.2
  have:=h p.k hk.1 hk.2
  have hf:(ofL P k).find? (fun r=>r.k==p.k)=some p:=by
   have hn:=ofL_keys hw k
   have hall:∀(l:List Pt),(l.map (·.k)).Nodup→p∈l→l.find? (fun r=>r.k==p.k)=some p:=by
    intro l
    induction l with
    |nil=>intro _ h;simp at h
    |cons x l ih=>
     intro hn hm
     rw [List.map_cons,List.nodup_cons] at hn
     rcases List.mem_cons.1 hm with rfl|hm
     ·rw [List.find?_cons_of_pos (by simp)]
     ·have hne:x.k≠p.k:=fun e=>hn.1 (List.mem_map.2 ⟨p,hm,e.symm⟩)
      rw [List.find?_cons_of_neg (by simpa using hne)]
      exact ih hn.2 hm
   exact hall _ hn hp
  rw [ofL_find] at hf
  unfold amt at this
  rw [hf] at this
  simp only at this
  unfold wrap64
  omega
theorem fits_congr {S T:Int→Int}:∀{l:List Pt},(∀p∈l,S p.k=T p.k)→fitsE S l=fitsE T l
 | [],_=>rfl
 |p::l,h=>by rw [fitsE,fitsE,h p List.mem_cons_self,fits_congr fun r hr=>h r (List.mem_cons_of_mem _ hr)]
theorem houses_mem {P:List Pt} {k:Int}:k∈housesE P↔(k=0∨k=1∨k=2)∧ofL P k≠ []:=by
 unfold housesE ofL
 rw [List.mem_filter]
 constructor
 ·rintro⟨h1,h2⟩
  refine⟨by simpa using h1,fun e=>?_⟩
  obtain⟨p,hp,hk⟩:=List.any_eq_true.1 h2
  have:p∈P.filter (fun p=>p.h==k):=List.mem_filter.2 ⟨hp,hk⟩
  rw [e] at this;simp at this
 ·rintro⟨h1,h2⟩
  refine⟨by simpa using h1,?_⟩
  obtain⟨p,hp⟩:=List.exists_mem_of_ne_nil _ h2
  obtain⟨h3,h4⟩:=List.mem_filter.1 hp
  exact List.any_eq_true.2 ⟨p,h3,h4⟩
theorem houses_nodup (P:List Pt):(housesE P).Nodup:=by
 unfold housesE
 exact List.Nodup.sublist List.filter_sublist (by decide)
theorem houses_lt {P:List Pt} {n:Int} (hw:wrongE P n=0) {k:Int} (h:k∈housesE P):0≤k∧k<n:=by
 obtain⟨h1,h2⟩:=houses_mem.1 h
 obtain⟨p,hp⟩:=List.exists_mem_of_ne_nil _ h2
 unfold ofL at hp
 obtain⟨h3,h4⟩:=List.mem_filter.1 hp
 have:=(wrong_ok hw).2.2.1 p h3
 have h5:p.h=k:=by simpa using h4
 omega
theorem has_houses {P:List Pt} {n:Int} (hw:wrongE P n=0) (hn:n≤3) {k q:Int} (h:has k q P=true):k∈housesE P∧0≤q∧q<4:=by
 obtain⟨p,hp,h1,h2⟩:=has_mem.1 h
 have:=(wrong_ok hw).2.2.1 p hp
 refine⟨houses_mem.2 ⟨by omega,?_⟩,by omega,by omega⟩
 intro e
 have:p∈ofL P k:=by unfold ofL;exact List.mem_filter.2 ⟨hp,by simp [h1]⟩
 rw [e] at this;simp at this
theorem has_keys {P:List Pt} {k q:Int} (h:has k q P=true):q∈(ofL P k).map (·.k):=by
 obtain⟨p,hp,h1,h2⟩:=has_mem.1 h
 exact List.mem_map.2 ⟨p,by unfold ofL;exact List.mem_filter.2 ⟨hp,by simp [h1]⟩,h2⟩
theorem houses_some {P:List Pt} {n:Int} (hw:wrongE P n=0) (hn:n≤3):0<(housesE P).length:=by
 obtain⟨h1,h2,h3,h4⟩:=wrong_ok hw
 obtain⟨p,hp⟩:=List.exists_mem_of_length_pos h1
 have hb:=h3 p hp
 have:p.h∈housesE P:=houses_mem.2 ⟨by omega,fun e=>by
  have:p∈ofL P p.h:=by unfold ofL;exact List.mem_filter.2 ⟨hp,by simp⟩
  rw [e] at this;simp at this⟩
 exact List.length_pos_of_mem this
def errGo (P:List Pt):Nat→List Sm→Int
 |_,[]=>0
 |k,s::l=>if fitsE s.get (ofL P k)=0 then errGo P (k+1) l else fitsE s.get (ofL P k)
def putGo (P:List Pt):Nat→List Sm→List Sm
 |_,[]=>[]
 |k,s::l=>doP s (ofL P k)::putGo P (k+1) l
def doAllE (sums:List Sm) (P:List Pt):List Sm×Int:=if errGo P 0 sums=0 then(putGo P 0 sums,0) else(sums,errGo P 0 sums)
def allE (sums:List Sm):List Rd→List Sm×List Int
 | []=>(sums,[])
 |r::D=>((allE (doAllE sums r.parts).1 D).1,(doAllE sums r.parts).2::(allE (doAllE sums r.parts).1 D).2)
theorem errGo_zero {P:List Pt}:∀{l:List Sm} {k0:Nat},(∀(k:Nat) s,l[k]? =some s→fitsE s.get (ofL P ((k0+k:Nat):Int))=0)→errGo P k0 l=0
 | [],_,_=>rfl
 |s::l,k0,h=>by
  unfold errGo
  rw [if_pos (by simpa using h 0 s rfl)]
  exact errGo_zero fun k t ht=>by
   have:=h (k+1) t (by simpa using ht)
   rwa [show k0+(k+1)=k0+1+k by omega] at this
theorem putGo_get {P:List Pt}:∀{l:List Sm} {k0:Nat} (k:Nat),(putGo P k0 l)[k]? =(l[k]?).map fun s=>doP s (ofL P ((k0+k:Nat):Int))
 | [],_,k=>by simp [putGo]
 |s::l,k0,0=>by simp [putGo]
 |s::l,k0,k+1=>by
  unfold putGo
  rw [List.getElem?_cons_succ,List.getElem?_cons_succ,putGo_get k,show k0+1+k=k0+(k+1) by omega]
theorem putGo_len {P:List Pt}:∀(l:List Sm) (k0:Nat),(putGo P k0 l).length=l.length
 | [],_=>rfl
 |s::l,k0=>by unfold putGo;simp [putGo_len l]
theorem sorted_ext:∀{a b:List Int},a.Pairwise (· < ·)→b.Pairwise (· < ·)→(∀x,x∈a↔x∈b)→a=b
 | [],[],_,_,_=>rfl
 | [],y::b,_,_,h=>absurd ((h y).2 List.mem_cons_self) (by simp)
 |x::a,[],_,_,h=>absurd ((h x).1 List.mem_cons_self) (by simp)
 |x::a,y::b,ha,hb,h=>by
  rw [List.pairwise_cons] at ha hb
  have hxy:x=y:=by
   rcases List.mem_cons.1 ((h x).1 List.mem_cons_self) with e|e
   ·exact e
   ·rcases List.mem_cons.1 ((h y).2 List.mem_cons_self) with e'|e'
    ·exact e'.symm
    ·have:=hb.1 x e;have:=ha.1 y e';omega
  subst hxy
  rw [sorted_ext ha.2 hb.2 fun z=>⟨fun hz=>by
   rcases List.mem_cons.1 ((h z).1 (List.mem_cons_of_mem _ hz)) with e|e
   ·have:=ha.1 z hz;omega
   ·exact e,fun hz=>by
   rcases List.mem_cons.1 ((h z).2 (List.mem_cons_of_mem _ hz)) with e|e
   ·have:=hb.1 z hz;omega
   ·exact e⟩]
def dedupE:List Int→List Pt→List Int
 |had,[]=>had
 |had,p::l=>dedupE (if p.h∈had then had else had++ [p.h]) l
theorem dedup_mem:∀{l:List Pt} {had:List Int} {x:Int},x∈dedupE had l↔x∈had∨∃p∈l,p.h=x
 | [],had,x=>by simp [dedupE]
 |p::l,had,x=>by
  rw [dedupE,dedup_mem]
  split
  ·rename_i hp
   constructor
   ·rintro(h|⟨q,hq,rfl⟩)
    ·exact .inl h
    ·exact .inr ⟨q,List.mem_cons_of_mem _ hq,rfl⟩
   ·rintro(h|⟨q,hq,rfl⟩)
    ·exact .inl h
    ·rcases List.mem_cons.1 hq with rfl|hq
     ·exact .inl hp
     ·exact .inr ⟨q,hq,rfl⟩
  ·constructor
   ·rintro(h|⟨q,hq,rfl⟩)
    ·rcases List.mem_append.1 h with h|h
     ·exact .inl h
     ·exact .inr ⟨p,List.mem_cons_self,(by simpa using h:x=p.h).symm⟩
    ·exact .inr ⟨q,List.mem_cons_of_mem _ hq,rfl⟩
   ·rintro(h|⟨q,hq,rfl⟩)
    ·exact .inl (List.mem_append_left _ h)
    ·rcases List.mem_cons.1 hq with rfl|hq
     ·exact .inl (by simp)
     ·exact .inr ⟨q,hq,rfl⟩
theorem dedup_nodup:∀{l:List Pt} {had:List Int},had.Nodup→(dedupE had l).Nodup
 | [],_,h=>h
 |p::l,had,h=>by
  rw [dedupE]
  apply dedup_nodup
  split
  ·exact h
  ·rename_i hp
   rw [List.nodup_append]
   exact⟨h,by simp,fun a ha b hb=>by simp only [List.mem_singleton] at hb;subst hb;rintro rfl;exact hp ha⟩
theorem dedup_len:∀(l:List Pt) (had:List Int),(dedupE had l).length≤had.length+l.length
 | [],_=>by simp [dedupE]
 |p::l,had=>by
  rw [dedupE]
  have:=dedup_len l (if p.h∈had then had else had++ [p.h])
  have h2:(if p.h∈had then had else had++ [p.h]).length≤had.length+1:=by split<;>simp
  simp only [List.length_cons];omega
theorem sort_rise {l:List Int} (h:l.Nodup):(l.mergeSort fun x y=>decide (x≤y)).Pairwise (· < ·):=by
 have h1:(l.mergeSort fun x y=>decide (x≤y)).Pairwise fun a b=>decide (a≤b)=true:=
  List.pairwise_mergeSort (fun a b c h1 h2=>by simp only [decide_eq_true_eq] at*;omega) (fun a b=>by simp only [Bool.or_eq_true,decide_eq_true_eq];omega) l
 have h2:(l.mergeSort fun x y=>decide (x≤y)).Nodup:=(List.mergeSort_perm l _).nodup_iff.2 h
 exact(h1.and h2).imp fun {a b} h=>by
  have:=of_decide_eq_true h.1
  have h3:a≠b:=h.2
  omega
theorem houses_rise (l:List Pt):(housesE l).Pairwise (· < ·):=by
 unfold housesE
 exact List.Pairwise.filter _ (by simp)
theorem mem_houses {l:List Pt} {x:Int}:x∈housesE l↔(x=0∨x=1∨x=2)∧∃p∈l,p.h=x:=by
 unfold housesE
 simp [List.mem_filter]
theorem houses_sort {l:List Pt} (h:∀p∈l,0≤p.h∧p.h<3):(dedupE [] l).mergeSort (fun x y=>decide (x≤y))=housesE l:=by
 refine sorted_ext (sort_rise (dedup_nodup List.nodup_nil)) (houses_rise l) fun x=>?_
 rw [List.mem_mergeSort,dedup_mem,mem_houses]
 constructor
 ·rintro(h0|⟨p,hp,rfl⟩)
  ·simp at h0
  ·have:=h p hp
   exact⟨by omega,p,hp,rfl⟩
 ·rintro⟨-,p,hp,rfl⟩
  exact .inr ⟨p,hp,rfl⟩
theorem ofL_none {l:List Pt} {n:Int} (h:n∉housesE l) (h0:n=0∨n=1∨n=2):ofL l n=[]:=by
 rw [mem_houses] at h
 unfold ofL
 rw [List.filter_eq_nil_iff]
 intro p hp e
 exact h ⟨h0,p,hp,by simpa using e⟩
def doGo (P:List Pt) (sums:List Sm) (out:List Sm):List Int→List Sm×Int
 | []=>(out,0)
 |n::ns=>if fitsE (sums.getD n.toNat ⟨0,0,0,0⟩).get (ofL P n)=0 then doGo P sums (out.set n.toNat (doP (sums.getD n.toNat ⟨0,0,0,0⟩) (ofL P n))) ns else(sums,fitsE (sums.getD n.toNat ⟨0,0,0,0⟩).get (ofL P n))
theorem fits_nil (f:Int→Int):fitsE f []=0:=rfl
theorem doP_nil (s:Sm):doP s []=s:=rfl
theorem doGo_all {P:List Pt} {sums:List Sm} (hl:1≤sums.length) (hl3:sums.length≤3) (hP:∀p∈P,0≤p.h∧p.h<sums.length):doGo P sums sums (housesE P)=doAllE sums P:=by
 have hn:∀n:Int,(n=0∨n=1∨n=2)→(P.any fun p=>p.h==n)=false→ofL P n=[]:=fun n h0 h=>by
  apply ofL_none _ h0
  rw [mem_houses]
  rintro⟨-,p,hp,rfl⟩
  rw [List.any_eq_false] at h
  exact h p hp (by simp)
 have hb:∀n:Int,(sums.length:Int)≤n→(P.any fun p=>p.h==n)=false:=fun n h=>by
  rw [List.any_eq_false]
  intro p hp e
  have:=hP p hp
  simp only [beq_iff_eq] at e
  omega
 match sums,hl,hl3,hb with
 | [a],_,_,hb=>
  have b1:=hb 1 (by simp)
  have b2:=hb 2 (by simp)
  cases b0:(P.any fun p=>p.h==0) with
  |false=>simp [housesE,b0,b1,b2,doGo,doAllE,errGo,putGo,hn 0 (.inl rfl) b0,fits_nil,doP_nil]
  |true=>
   simp only [housesE,b0,b1,b2,doGo,doAllE,errGo,putGo,List.filter_cons,List.filter_nil,if_true,if_false,Bool.false_eq_true]
   split<;>simp_all
 | [a,b],_,_,hb=>
  have b2:=hb 2 (by simp)
  cases b0:(P.any fun p=>p.h==0)<;>cases b1:(P.any fun p=>p.h==1)<;>
   simp only [housesE,b0,b1,b2,doGo,doAllE,errGo,putGo,List.filter_cons,List.filter_nil,if_true,if_false,Bool.false_eq_true]<;>
   (try have e0:=hn 0 (.inl rfl) b0)<;>(try have e1:=hn 1 (.inr (.inl rfl)) b1)<;>
   simp_all [fits_nil,doP_nil]<;>(repeat' split)<;>simp_all
 | [a,b,c],_,_,hb=>
  cases b0:(P.any fun p=>p.h==0)<;>cases b1:(P.any fun p=>p.h==1)<;>cases b2:(P.any fun p=>p.h==2)<;>
   simp only [housesE,b0,b1,b2,doGo,doAllE,errGo,putGo,List.filter_cons,List.filter_nil,if_true,if_false,Bool.false_eq_true]<;>
   (try have e0:=hn 0 (.inl rfl) b0)<;>(try have e1:=hn 1 (.inr (.inl rfl)) b1)<;>(try have e2:=hn 2 (.inr (.inr rfl)) b2)<;>
   simp_all [fits_nil,doP_nil]<;>(repeat' split)<;>simp_all
theorem owns_grow {w w':World} {base:Nat} {e:TypeId} {size n:Nat} {v:Value} {xs:List Value} (h:w.ownsRow base e size v n xs) (hg:Grow w w'):w'.ownsRow base e size v n xs:=
 h.kept (grownBy_of_grow hg none) (by cases v.ownBlock with|none=>exact .inl rfl|some k=>exact .inr (by simp))
theorem of_any (l:List Pt) (n:Int):(l.any fun p=>p.h==n)=decide (0<(ofL l n).length):=by
 unfold ofL
 rw [Bool.eq_iff_iff,List.any_eq_true,decide_eq_true_eq,List.length_pos_iff_exists_mem]
 constructor
 ·rintro⟨p,hp,h⟩;exact⟨p,List.mem_filter.2 ⟨hp,h⟩⟩
 ·rintro⟨p,hp⟩;exact⟨p,(List.mem_filter.1 hp).1,(List.mem_filter.1 hp).2⟩
def housesTo (l:List Pt) (k:Nat):List Int:=(([0,1,2]:List Int).take k).filter fun n=>l.any fun p=>p.h==n
theorem houses_to (l:List Pt) {k:Nat} (h:k<3):housesTo l (k+1)=housesTo l k++if 0<(ofL l k).length then [(k:Int)] else []:=by
 have e:([0,1,2]:List Int).take (k+1)=([0,1,2]:List Int).take k++ [(k:Int)]:=by
  match k,h with
  |0,_=>rfl
  |1,_=>rfl
  |2,_=>rfl
 unfold housesTo
 rw [e,List.filter_append]
 congr 1
 by_cases h0:0<(ofL l k).length
 ·rw [if_pos h0,List.filter_cons_of_pos (by rw [of_any];exact decide_eq_true h0)];rfl
 ·rw [if_neg h0,List.filter_cons_of_neg (by rw [of_any];simpa using h0)];rfl
theorem housesTo_len (l:List Pt) (k:Nat):(housesTo l k).length≤3:=Nat.le_trans (List.length_filter_le _ _) (by simp;omega)
set_option maxHeartbeats 400000 in
theorem ref_houses {v:Value} {l:List Pt} (w:World) (hv:Pts w.cell? v l) (hm:l.length*24≤140737488355328):
  Calls Try.prog 82 #[v] w fun e w'=>∃v',e=.returned v'∧w'.ownsRow w.heap.size 3 1 v' (housesE l).length ((housesE l).flatMap intCell)∧Grow w w':=by
 have HOF:=η (fun(n:Int) (W:World) (hW:Grow w W)=>ref_of (n:=n) W (hv.mono hW.sub) hm)
 clear hv
 go_enter Try.func82,Try.ntmps82
 go_wp2
 go_loopw [3,4,5] (fun v _ i wr=>∃k:Nat,k≤3∧i=.int .i64 k∧Grow w wr∧wr.ownsRow w.heap.size 3 1 v (housesTo l k).length ((housesTo l k).flatMap intCell)) (fun _ _ i _=>3 - (intOf i).toNat)
 case atStart=>exact⟨0,by omega,rfl,Grow.refl _,World.ownsRow_nil _ _ _ _⟩
 case round=>
  obtain⟨k,hk',rfl,hb,hown⟩:=hrel
  by_cases hlt:k<3
  ·have HD:=η (houses_to l hlt)
   have hle:=housesTo_len l k
   have HL:=η (show(ofL l k).length=(ofL l k).length from rfl)
   have HB:=η hb
   have HOW:=η hown
   generalize housesTo l k=acc at*
   clear hown hb
   go_wp2_with fail
   refine(HOF.o _ _ HB.o).mono ?_
   rintro e w1 ⟨v1,rfl,hown1,hb1⟩
   obtain⟨a1,c1,rfl⟩:=owns_form hown1
   have HB1:=η (HB.o.trans hb1)
   have HO1:=η (owns_grow HOW.o hb1)
   clear hown1 hb1
   generalize (ofL l k).length=m at*
   by_cases h0:0<m
   ·have HD1:=η (show housesTo l (k+1)=acc++ [(k:Int)] by rw [HD.o,if_pos h0])
    go_wp2_with (at_builtin;refine app1 ei_int rfl _ _ rfl HB1.o rfl HO1.o rfl (by simp) rfl (by simp [Value.oneCell']) (by omega) (by decide) ?_;intro v' w' hown' hb' _)
    go_roundw
    case rel=>exact⟨k+1,by omega,by go_num,hb',by rw [HD1.o];simpa [intCell] using hown'⟩
    case measure=>simp [intOf];omega
   ·obtain rfl:m=0:=by omega
    have HD1:=η (show housesTo l (k+1)=acc by rw [HD.o,if_neg h0,List.append_nil])
    go_wp2_with fail
    go_roundw
    case rel=>exact⟨k+1,by omega,by go_num,HB1.o,by rw [HD1.o];exact HO1.o⟩
    case measure=>simp [intOf];omega
  ·obtain rfl:k=3:=by omega
   go_wp2
   go_ret
   exact⟨_,rfl,hown,hb⟩
end Go.Proofs.Ytgbhpghgohggcaa
namespace Go.Proofs.Ytgbhpghgohggcaa
def sumStep (s:Nat) (c:UInt8):Nat:=(s*263+c.toNat+1) % 65521
def sumFrom (s:Nat) (b:List UInt8):Nat:=b.foldl sumStep s
def sumB (b:List UInt8):Nat:=sumFrom 5 b
theorem sumStep_lt (s:Nat) (c:UInt8):sumStep s c<65521:=Nat.mod_lt _ (by decide)
theorem sumFrom_lt:∀(b:List UInt8) {s:Nat},s<65521→sumFrom s b<65521
 | [],_,h=>h
 |c::b,_,_=>sumFrom_lt b (sumStep_lt _ c)
theorem sumB_lt (b:List UInt8):sumB b<65521:=sumFrom_lt b (by decide)
def varint (u:Nat):List UInt8:=if u<128 then [UInt8.ofNat u] else UInt8.ofNat (u % 128+128)::varint (u/128)
termination_by u
decreasing_by omega
theorem varint_small {u:Nat} (h:u<128):varint u=[UInt8.ofNat u]:=by rw [varint,if_pos h]
theorem varint_big {u:Nat} (h:¬u<128):varint u=UInt8.ofNat (u % 128+128)::varint (u/128):=by rw [varint,if_neg h]
theorem varint_pos (u:Nat):0<(varint u).length:=by
 by_cases h:u<128
 ·rw [varint_small h];simp
 ·rw [varint_big h];simp
def zig (n:Int):Nat:=if n<0 then 2*(-n - 1).toNat+1 else 2*n.toNat
def zag (u:Nat):Int:=if u % 2=1 then -((u/2:Nat):Int) - 1 else((u/2:Nat):Int)
theorem zag_zig (n:Int):zag (zig n)=n:=by
 unfold zag zig
 by_cases h:n<0
 ·rw [if_pos h,if_pos (by omega)];omega
 ·rw [if_neg h,if_neg (by omega)];omega
def numB (n:Int):List UInt8:=varint (zig n)
def getGo (i u:Nat):List UInt8→Int×Int×Int
 | []=>(0,0,8)
 |c::b=>if 6≤i then(0,0,3) else if 128≤c.toNat then getGo (i+1) (u+c.toNat % 128*128^i) b
  else if 0<i∧c.toNat=0 then(0,0,2) else(zag (u+c.toNat % 128*128^i),(i:Int)+1,0)
def getB (b:List UInt8):Int×Int×Int:=getGo 0 0 b
theorem ofNat_small {u:Nat} (h:u<256):(UInt8.ofNat u).toNat=u:=by rw [UInt8.toNat_ofNat'];omega
theorem get_varint:∀(v i u:Nat) (b:List UInt8),i<6→v<128^(6 - i)→(0<v∨i=0)→getGo i u (varint v++b)=(zag (u+v*128^i),(i:Int)+(varint v).length,0):=by
 intro v
 induction v using Nat.strongRecOn with
 |ind v ih=>
  intro i u b hi hv h0
  by_cases h:v<128
  ·rw [varint_small h,List.singleton_append,getGo,if_neg (by omega),ofNat_small (by omega),if_neg (by omega),if_neg (by omega),Nat.mod_eq_of_lt h]
   simp
  ·have hi5:i+1<6:=by
    by_cases h5:i=5
    ·subst h5
     have:(128:Nat)^(6 - 5)=128:=rfl
     omega
    ·omega
   have hp:(128:Nat)^(6 - i)=128*128^(6 - (i+1)):=by rw [show 6 - i=(6 - (i+1))+1 by omega,Nat.pow_succ,Nat.mul_comm]
   rw [varint_big h,List.cons_append,getGo,if_neg (by omega),ofNat_small (by omega),if_pos (by omega),show(v % 128+128) % 128=v % 128 by omega,
    ih (v/128) (by omega) (i+1) _ b hi5 (by rw [hp] at hv;exact Nat.div_lt_of_lt_mul hv) (.inl (by omega))]
   have e:u+v % 128*128^i+v/128*128^(i+1)=u+v*128^i:=by
    have h1:v/128*128^(i+1)=128*(v/128)*128^i:=by rw [Nat.pow_succ,Nat.mul_comm (128^i) 128,←Nat.mul_assoc,Nat.mul_comm (v/128) 128]
    rw [h1,Nat.add_assoc,←Nat.add_mul,Nat.mod_add_div]
   rw [e]
   simp only [List.length_cons,Prod.mk.injEq,true_and,and_true]
   push_cast
   omega
theorem get_num {n:Int} (b:List UInt8) (h:zig n<128^6):getB (numB n++b)=(n,((numB n).length:Int),0):=by
 unfold getB numB
 rw [get_varint _ 0 0 b (by omega) h (.inr rfl)]
 simp [zag_zig]
end Go.Proofs.Ytgbhpghgohggcaa
namespace Go.Proofs.Ytgbhpghgohggcaa
open Go.RowKit
abbrev OwnB (w:World) (base:Nat) (v:Value) (b:List UInt8):Prop:=w.ownsRow base 5 1 v b.length (b.flatMap byteCell)
def MoreB (w w':World) (v v':Value):Prop:=w.grownBy w' v.ownBlock∧(v'.ownBlock=v.ownBlock∨∃g,v'.ownBlock=some g∧w.heap.size≤g)
theorem MoreB.refl (w:World) (v:Value):MoreB w w v v:=⟨⟨rfl,rfl,rfl,Nat.le_refl _,fun _ _ _=>rfl⟩,.inl rfl⟩
theorem MoreB.trans {a b c:World} {u v x:Value} (h:MoreB a b u v) (k:MoreB b c v x):MoreB a c u x:=by
 obtain⟨h1,h2⟩:=h
 obtain⟨k1,k2⟩:=k
 refine⟨⟨k1.os.trans h1.os,k1.tape.trans h1.tape,k1.output.trans h1.output,Nat.le_trans h1.size k1.size,fun i hi hne=>?_⟩,?_⟩
 ·rw [k1.block i (Nat.lt_of_lt_of_le hi h1.size),h1.block i hi hne]
  intro e
  rcases h2 with h2|⟨g,h2,hg⟩
  ·exact hne (e.trans h2)
  ·rw [h2] at e
   obtain rfl:=Option.some.inj e
   omega
 ·rcases k2 with k2|⟨g,k2,hg⟩
  ·rcases h2 with h2|⟨g,h2,hg⟩
   ·exact .inl (k2.trans h2)
   ·exact .inr ⟨g,k2.trans h2,hg⟩
  ·exact .inr ⟨g,k2,Nat.le_trans h1.size hg⟩
theorem MoreB.grow {a b c:World} {u v:Value} (h:MoreB a b u v) (k:Grow b c):MoreB a c u v:=h.trans ⟨grownBy_of_grow k _,.inl rfl⟩
theorem MoreB.ahead {a b c:World} {u v:Value} (k:Grow a b) (h:MoreB b c u v):MoreB a c u v:=MoreB.trans (v:=u) ⟨grownBy_of_grow k _,.inl rfl⟩ h
theorem MoreB.all {w0 w w':World} {v v':Value} (hG:Grow w0 w) (h:MoreB w w' v v') (hv:∀k,v.ownBlock=some k→w0.heap.size≤k):Grow w0 w':=hG.grown h.1 hv
theorem MoreB.nil {w w':World} {v':Value} (h:MoreB w w' (.slice none 0 0) v'):Grow w w':=(Grow.refl w).grown h.1 (fun k hk=>by simp [Value.ownBlock] at hk)
theorem flat_bytes (a b:List UInt8):a.flatMap byteCell++b.flatMap byteCell=(a++b).flatMap byteCell:=by rw [List.flatMap_append]
theorem appB {w0:World} {cs:Array Value} {t:TypeId} {ops:Array Oper} {rest:List Oper} {o:Oper} {a:Act} {Q:Exit→Act→World→Prop} (hgd:o.guard=none) (s x:Operand)
  (ho:o.op=.call { callee:=.builtin .append,args:=#[s,x],argTypes:=#[69,69] })
  {base:Nat} {v:Value} {b:List UInt8} (hs:a.eval s=v) (hown:OwnB w0 base v b) (hbase:base≤w0.heap.size)
  {g n c:Nat} (hx:a.eval x=.slice (some ⟨g,0,none⟩) n c) (hg:g=w0.heap.size) (ys:List UInt8) (hy:cs.toList=ys.flatMap byteCell) (hn:n=ys.length)
  (hlen:b.length+ys.length≤140737488355328)
  (h:∀v' w',OwnB w' base v' (b++ys)→MoreB w0 w' v v'→wpList Try.prog ops Q rest (a.put o.dst v') w'):wpList Try.prog ops Q (o::rest) a (w0.alloc (.cells cs t)):=by
 subst hg
 subst hn
 have hG:Grow w0 (w0.alloc (.cells cs t)):=(Grow.refl w0).alloc _
 have hone:∀u∈cs.toList,u.oneCell'=true:=by rw [hy];exact flat_one one_byte ys
 refine wpList_app_any ei_byte hgd s x ho hs (hown.alloc _) (some ⟨w0.heap.size,0,none⟩) ys.length c cs.toList hx (by simp) (by rw [hy,flat_len (size:=1) (fun _=>rfl)]) (fun ad had=>by obtain rfl:=Option.some.inj had;exact new_cells w0 cs t) hone (by unfold maxLen;omega) (by omega) (by have:=hG.size;omega) fun a' c' w' hA=>?_
 have h1:=hA.own
 rw [hy,flat_bytes] at h1
 refine h _ w' ?_ (MoreB.ahead hG ⟨hA.grown,hA.blk⟩)
 have e:b.length+ys.length=(b++ys).length:=by simp
 rw [e] at h1 ⊢
 exact h1
theorem i64_bounds {n:Int} (h:I64 n):-9223372036854775808≤n∧n≤9223372036854775807:=by
 simp [I64,Lit.wf,IntKind.min,IntKind.max,IntKind.signed,IntKind.bits] at h
 omega
theorem varint_len:∀(k u:Nat),u<128^k→(varint u).length≤k∨(k=0∧(varint u).length=1)
 |0,u,h=>by
  refine .inr ⟨rfl,?_⟩
  rw [varint_small (by simp at h;omega)];rfl
 |k+1,u,h=>by
  by_cases hs:u<128
  ·rw [varint_small hs];exact .inl (by simp)
  ·rw [varint_big hs]
   have h2:u/128<128^k:=by
    rw [Nat.pow_succ] at h
    exact Nat.div_lt_of_lt_mul (by rw [Nat.mul_comm];exact h)
   rcases varint_len k (u/128) h2 with h3|⟨rfl,h3⟩
   ·exact .inl (by simpa using h3)
   ·exfalso
    simp at h2
    omega
theorem numB_len {n:Int} (h0:-9223372036854775808≤n) (h1:n≤9223372036854775807):(numB n).length≤10:=by
 unfold numB
 have hz:zig n<128^10:=by
  have e:(128:Nat)^10=1180591620717411303424:=by decide
  rw [e]
  unfold zig
  split<;>omega
 rcases varint_len 10 _ hz with h|⟨h,-⟩
 ·exact h
 ·omega
theorem byte_wrap (x:Nat):((UInt8.ofNat x).toNat:Int)=((x % 256:Nat):Int):=by rw [UInt8.toNat_ofNat']
theorem sum_snoc (s:Nat) (b:List UInt8) (k:Nat) (h:k<b.length):sumFrom s (b.take (k+1))=sumStep (sumFrom s (b.take k)) b[k]:=by
 rw [List.take_succ_eq_append_getElem h]
 unfold sumFrom
 rw [List.foldl_append]
 rfl
abbrev Ty.bs:=Ty.sl Ty.byte
abbrev Nts:=Sl Ty.bs
theorem OwnC.bytes {c:CM} {w:World} {base:Nat} {v:Value} {l:List UInt8} (h:OwnB w base v l):OwnC Ty.byte c w base 5 v l:=
 OwnC.of_flat (T:=Ty.byte) (f:=byteCell) h fun _ _=>rfl
theorem bts_fr {W0 w1 w:World} {v:Value} {l:List UInt8} {X:List (Option Nat)} (h:OwnB w w1.heap.size v l) (hW:W0.heap.size≤w1.heap.size) (hX:∀k,w1.heap.size≤k→some k∉X):Sl Ty.byte (fr W0 w X) v l:=
 (OwnC.bytes (c:=fr W0 w X) h).slc (by decide) (Sub.refl _) fun a ha=>fr_new (by omega) (hX _ ha)
theorem Nts.at_ {c:CM} {a:Option Addr} {l:List (List UInt8)} (h:∀i x,l[i]? =some x→∃b o cs,a=some ⟨b,o,none⟩∧Ty.bs.R c cs x∧At c b (o+i*Ty.bs.size) cs) (k:Nat) (hk:k<l.length):
  ∃b o v,a=some ⟨b,o,none⟩∧c ⟨b,o+k,none⟩=some v∧Sl Ty.byte c v l[k]:=by
 obtain⟨b,o,cs,ha,⟨v,rfl,hR⟩,hA⟩:=h k l[k] (by simp [hk])
 refine⟨b,o,v,ha,?_,hR⟩
 have:=hA 0 _ rfl
 simpa [Ty.sl] using this
theorem end_byte {u:Nat} (_:u<128) {y:Int} (hy:y=((u % 256:Nat):Int)):y=((UInt8.ofNat u).toNat:Int):=by
 rw [hy,byte_wrap]
theorem num_more {pre:List UInt8} {u:Nat} {X:List UInt8} (h:pre++varint u=X) (hu:¬u<128):(pre++ [UInt8.ofNat (u % 128+128)])++varint (u/128)=X:=by
 rw [←h,varint_big hu,List.append_assoc];rfl
theorem num_last {pre:List UInt8} {u:Nat} {X:List UInt8} (h:pre++varint u=X) (hu:u<128):pre++ [UInt8.ofNat u]=X:=by
 rw [←h,varint_small hu]
def Lim (u:Nat):Prop:=u<18446744073709551616
theorem Lim.div {u:Nat} (h:Lim u):Lim (u/128):=by unfold Lim at*;omega
theorem zig_lim {n:Int} (h0:-9223372036854775808≤n) (h1:n≤9223372036854775807):Lim (zig n):=by unfold Lim zig;split<;>omega
theorem Lim.wrap {u:Nat} (h:Lim u):IntKind.u64.wrap ((u:Int)/128)=(u:Int)/128:=by
 unfold Lim at h
 rw [IntKind.wrap_u64]
 omega
theorem ref_byte {u:Nat} {z:UInt8} (hz:z=UInt8.ofNat (u % 128+128)):(u:Int) % 128+128=(z.toNat:Int):=by
 rw [hz,byte_wrap]
 omega
theorem zig_neg {n:Int} (h:n<0):-(n+1)*2+1=((zig n:Nat):Int):=by
 unfold zig
 rw [if_pos h]
 omega
theorem zig_pos {n:Int} (h:¬n<0):n*2=((zig n:Nat):Int):=by
 unfold zig
 rw [if_neg h]
 omega
set_option maxRecDepth 100000 in
set_option maxHeartbeats 1000000 in
theorem ref_number {n:Int} (w:World) (hn:I64 n):
  Calls Try.prog 166 #[.int .i64 n] w fun e w'=>∃v',e=.returned v'∧OwnB w' w.heap.size v' (numB n)∧Grow w w':=by
 obtain⟨h0,h1⟩:=i64_bounds hn
 have HL:=η (numB_len h0 h1)
 have hz:=zig_lim h0 h1
 by_cases hneg:n<0
 ·have HZN:=η (zig_neg hneg)
  go_enter Try.func166,Try.ntmps166
  go_wp2
  go_loopw [3,4] (fun u bv wr=>∃(u':Nat) (pre:List UInt8),u=.int .u64 u'∧Lim u'∧pre++varint u'=numB n∧OwnB wr w.heap.size bv pre∧Grow w wr) (fun u _ _=>(intOf u).toNat)
  case atStart=>exact⟨zig n,[],congrArg (Value.int .u64) HZN.o,hz,rfl,World.ownsRow_nil _ _ _ _,grA⟩
  case round=>
   obtain⟨u,pre,rfl,hu,hE,hown,hM⟩:=hrel
   obtain⟨a1,k1,rfl⟩:=owns_form hown
   have hpl:pre.length≤9:=by
    have h1:=congrArg List.length hE
    have h2:=HL.o
    have h3:=varint_pos u
    rw [List.length_append] at h1
    omega
   have HO1:=η hown
   have HM1:=η hM
   have hsz:=hM.size
   by_cases hlt:u<128
   ·have HE:=η (num_last hE hlt)
    clear hE hown hM
    go_wp2_with (at_builtin;refine appB rfl _ _ rfl rfl HO1.o hsz rfl rfl [UInt8.ofNat u] ?e0 rfl ?e1 ?_)
    case e0=>exact congrArg (fun x=>[Value.int .u8 x]) (end_byte hlt (by go_num))
    case e1=>simp;omega
    intro v' w' ho hm
    have HO2:=η ho
    have HM2:=η (hm.all HM1.o (fun k hk=>(HO1.o.lt k hk).1))
    clear ho hm
    go_wp2
    go_ret
    exact⟨_,rfl,by rw [←HE.o];exact HO2.o,HM2.o⟩
   ·have he2:=num_more hE hlt
    obtain⟨z,hz⟩:∃z,z=UInt8.ofNat (u % 128+128):=⟨_,rfl⟩
    rw [←hz] at he2
    have HE:=η he2
    have HB:=η (ref_byte hz)
    clear hE hown hM he2 hz
    have hq:=hu.wrap
    go_wp2_with (at_builtin;refine appB rfl _ _ rfl rfl HO1.o hsz rfl rfl [z] ?e0 rfl ?e1 ?_)
    case e0=>exact congrArg (fun x=>[Value.int .u8 x]) HB.o
    case e1=>simp;omega
    intro v' w' ho hm
    have HO2:=η ho
    have HM2:=η (hm.all HM1.o (fun k hk=>(HO1.o.lt k hk).1))
    clear ho hm
    go_wp2
    go_roundw
    case rel=>exact⟨u/128,pre++ [z],by go_num,hu.div,HE.o,HO2.o,HM2.o⟩
    case measure=>simp [intOf];omega
 ·have HZN:=η (zig_pos hneg)
  go_enter Try.func166,Try.ntmps166
  go_wp2
  go_loopw [3,4] (fun u bv wr=>∃(u':Nat) (pre:List UInt8),u=.int .u64 u'∧Lim u'∧pre++varint u'=numB n∧OwnB wr w.heap.size bv pre∧Grow w wr) (fun u _ _=>(intOf u).toNat)
  case atStart=>exact⟨zig n,[],congrArg (Value.int .u64) HZN.o,hz,rfl,World.ownsRow_nil _ _ _ _,grA⟩
  case round=>
   obtain⟨u,pre,rfl,hu,hE,hown,hM⟩:=hrel
   obtain⟨a1,k1,rfl⟩:=owns_form hown
   have hpl:pre.length≤9:=by
    have h1:=congrArg List.length hE
    have h2:=HL.o
    have h3:=varint_pos u
    rw [List.length_append] at h1
    omega
   have HO1:=η hown
   have HM1:=η hM
   have hsz:=hM.size
   by_cases hlt:u<128
   ·have HE:=η (num_last hE hlt)
    clear hE hown hM
    go_wp2_with (at_builtin;refine appB rfl _ _ rfl rfl HO1.o hsz rfl rfl [UInt8.ofNat u] ?e0 rfl ?e1 ?_)
    case e0=>exact congrArg (fun x=>[Value.int .u8 x]) (end_byte hlt (by go_num))
    case e1=>simp;omega
    intro v' w' ho hm
    have HO2:=η ho
    have HM2:=η (hm.all HM1.o (fun k hk=>(HO1.o.lt k hk).1))
    clear ho hm
    go_wp2
    go_ret
    exact⟨_,rfl,by rw [←HE.o];exact HO2.o,HM2.o⟩
   ·have he2:=num_more hE hlt
    obtain⟨z,hz⟩:∃z,z=UInt8.ofNat (u % 128+128):=⟨_,rfl⟩
    rw [←hz] at he2
    have HE:=η he2
    have HB:=η (ref_byte hz)
    clear hE hown hM he2 hz
    have hq:=hu.wrap
    go_wp2_with (at_builtin;refine appB rfl _ _ rfl rfl HO1.o hsz rfl rfl [z] ?e0 rfl ?e1 ?_)
    case e0=>exact congrArg (fun x=>[Value.int .u8 x]) HB.o
    case e1=>simp;omega
    intro v' w' ho hm
    have HO2:=η ho
    have HM2:=η (hm.all HM1.o (fun k hk=>(HO1.o.lt k hk).1))
    clear ho hm
    go_wp2
    go_roundw
    case rel=>exact⟨u/128,pre++ [z],by go_num,hu.div,HE.o,HO2.o,HM2.o⟩
    case measure=>simp [intOf];omega
theorem sum_int {s x:Nat} {c:UInt8} (hs:s<65521) (hx:c.toNat=x) (hx2:x<256) {y:Int} (hy:y=Int.tmod ((s:Int)*263+x+1) 65521):y=(sumStep s c:Int):=by
 subst hx
 unfold sumStep
 rw [hy,Int.tmod_eq_emod_of_nonneg (by omega)]
 omega
theorem sum_int2 {s x:Nat} {c:UInt8} (hs:s<65521) (hx:c.toNat=x) (hx2:x<256) {y:Int} (hy:y=Int.tmod (263*(s:Int)+x+1) 65521):y=(sumStep s c:Int):=
 sum_int hs hx hx2 (by rw [hy,Int.mul_comm])
set_option maxHeartbeats 400000 in
theorem ref_sum {v:Value} {b:List UInt8} (w:World) (hv:Bts w.cell? v b):
  Calls Try.prog 134 #[v] w fun e w'=>e=.returned (.int .i64 (sumB b:Nat))∧Grow w w':=by
 obtain⟨a,cap,rfl,h1,h2,-,hel⟩:=hv
 unfold maxLen at h2
 go_enter Try.func134,Try.ntmps134
 go_wp2
 go_loopw [3,7] (fun s i wr=>∃k:Nat,k≤b.length∧i=.int .i64 k∧s=.int .i64 (sumFrom 5 (b.take k):Nat)∧Grow w wr) (fun _ i _=>b.length - (intOf i).toNat)
 case atStart=>exact⟨0,by omega,rfl,rfl,grA⟩
 case round=>
  obtain⟨k,hk',rfl,rfl,hb⟩:=hrel
  by_cases hlt:k<b.length
  ·obtain⟨bb,o,rfl,c0⟩:=byteAt hel k hlt
   replace c0:=hb.sub _ _ c0
   have HS:=η (sum_snoc 5 b k hlt)
   have hs:=sumFrom_lt (b.take k) (s:=5) (by decide)
   have hx:=b[k].toNat_lt
   clear hel
   obtain⟨x,hxe⟩:∃x,x=b[k].toNat:=⟨_,rfl⟩
   rw [←hxe] at c0 hx
   have HX:=η hxe
   clear hxe
   obtain⟨s,hse⟩:∃s,s=sumFrom 5 (b.take k):=⟨_,rfl⟩
   rw [←hse] at hs
   rw [←hse]
   have HE:=η hse
   clear hse
   go_wp2_with (go_quiet (fail))
   go_roundw
   case rel=>exact⟨k+1,by omega,by go_num,by
    rw [HS.o,←HE.o]
    exact congrArg (Value.int .i64) (sum_int2 hs HX.o.symm hx (by first|rfl|go_num)),grA⟩
   case measure=>simp [intOf];omega
  ·have e:b.take k=b:=List.take_of_length_le (by omega)
   rw [e]
   clear hel
   go_wp2
   go_ret
   exact⟨rfl,hb⟩
end Go.Proofs.Ytgbhpghgohggcaa
namespace Go.Proofs.Ytgbhpghgohggcaa
theorem idx_none {l:List Rd} {d:Int} (h:l.findIdx? (isD d)=none):l.find? (isD d)=none:=by
 rw [List.findIdx?_eq_none_iff] at h
 rw [List.find?_eq_none]
 intro x hx
 rw [h x hx];simp
theorem idx_some {d:Int}:∀{l:List Rd} {i:Nat},l.findIdx? (isD d)=some i→∃hi:i<l.length,l.find? (isD d)=some l[i]∧l.eraseP (isD d)=l.eraseIdx i
 | [],i,h=>by simp at h
 |x::l,i,h=>by
  rw [List.findIdx?_cons] at h
  by_cases hx:isD d x=true
  ·rw [if_pos hx] at h
   obtain rfl:0=i:=by simpa using h
   exact⟨by simp,by rw [List.find?_cons_of_pos hx];rfl,by rw [List.eraseP_cons_of_pos hx];rfl⟩
  ·rw [if_neg hx] at h
   cases hk:l.findIdx? (isD d) with
   |none=>rw [hk] at h;simp at h
   |some k=>
    rw [hk] at h
    obtain rfl:k+1=i:=by simpa using h
    obtain⟨h1,h2,h3⟩:=idx_some hk
    exact⟨by simp;omega,by rw [List.find?_cons_of_neg hx,h2];rfl,by rw [List.eraseP_cons_of_neg hx,h3];rfl⟩
end Go.Proofs.Ytgbhpghgohggcaa
namespace Go.Proofs.Ytgbhpghgohggcaa
open Go.RowKit
set_option maxRecDepth 100000 in
set_option maxHeartbeats 2000000 in
theorem ref_houseTick {v:Value} {h:Hs} {me:Int} (w:World) (hv:Of Ty.hs w.cell? v h) (hme:I64 me) (hm:h.ready.length*48≤140737488355328):
  Calls Try.prog 55 #[v,.int .i64 me] w fun e w'=>∃v',e=.returned v'∧OwnC Ty.ms (fun _=>none) w' w.heap.size 39 v' (hTickE h me)∧Grow w w':=by
 obtain⟨al,cl,ar,cr,ad,cd,rfl⟩:=hv.hs_form
 obtain⟨ar',cr',he,h1,h2,-,hel⟩:=(Of.hs_log hv).2.1
 obtain⟨rfl,rfl⟩:ar=ar'∧cr=cr':=by simpa using he
 unfold maxLen at h2
 have HM:=η hm
 have HME:=η hme
 clear hm hme he hv
 go_enter Try.func55,Try.ntmps55
 go_wp2
 go_loopw [5,11] (fun s5 i wr=>∃k:Nat,k≤h.ready.length∧i=.int .i64 k∧Grow w wr∧OwnC Ty.ms (fun _=>none) wr w.heap.size 39 s5 ((h.ready.take k).map fun r=>(⟨7,r.deed,me,[]⟩:Ms))) (fun _ i _=>h.ready.length - (intOf i).toNat)
 case atStart=>exact⟨0,by omega,rfl,grA,OwnC.nil _ _ _ _ _⟩
 case round=>
  obtain⟨k,hk',rfl,hb,hown⟩:=hrel
  by_cases hlt:k<h.ready.length
  ·obtain⟨b,o,vp,rfl,c0,c1,i0,hP⟩:=Rds.at_ hel k hlt
   obtain⟨ap,cp,rfl,-⟩:=id hP
   replace c0:=hb.sub _ _ c0
   replace c1:=hb.sub _ _ c1
   have HTK:=η (show(h.ready.take (k+1)).map (fun r=>(⟨7,r.deed,me,[]⟩:Ms))=(h.ready.take k).map (fun r=>(⟨7,r.deed,me,[]⟩:Ms))++ [⟨7,h.ready[k].deed,me,[]⟩] by rw [List.take_succ_eq_append_getElem hlt,List.map_append];rfl)
   have HLK:=η (show((h.ready.take k).map fun r=>(⟨7,r.deed,me,[]⟩:Ms)).length≤k by simp;omega)
   have HOWN:=η hown
   have HI:=η i0
   obtain⟨av,cv,rfl⟩:=hown.form
   clear hel hP hown i0
   generalize h.ready[k]=r at*
   generalize (h.ready.take k).map (fun r=>(⟨7,r.deed,me,[]⟩:Ms))=ms at*
   go_wp2_with (first|(at_builtin;refine wpList_appc (c:=fun _=>none) (base:=w.heap.size) (l:=ms) (m:=[⟨7,r.deed,me,[]⟩]) ei_ms rfl one_Tms (by decide) rfl (.tmp 15) (.tmp 20) rfl rfl ?own rfl (Src.of_new (T:=Ty.ms) (cs:=#[.int .i64 7,.int .i64 r.deed,.int .i64 me,.slice none 0 0]) ⟨_,rfl,(show I64 7 from by unfold I64;decide),HI.o,HME.o,Sl.nil _ _⟩ _ _ ?d1) ?d2 ?d3 ?_))
   case own=>exact HOWN.o.grow (((Grow.refl _).alloc _).alloc _)
   case d1=>simp
   case d2=>have:=HM.o;have:=HLK.o;simp;omega
   case d3=>have:=hb.size;simp;omega
   intro a9 c9 w9 ho9 hg9 hb9
   have HG9:Hid (Grow w w9):=η (grow_by (w0:=w) ((hb.alloc _).alloc _) hg9 (fun q hq=>(HOWN.o.lt q hq).1))
   have HO9:=η ho9
   clear ho9 hg9 hb9
   go_wp2
   go_roundw
   case rel=>exact⟨k+1,by omega,by go_num,HG9.o,by rw [HTK.o];exact HO9.o⟩
   case measure=>simp [intOf];omega
  ·clear hel
   go_wp2
   go_ret
   have h9:=hown
   rw [List.take_of_length_le (by omega)] at h9
   exact⟨_,rfl,h9,hb⟩
set_option maxHeartbeats 400000 in
theorem index_int {v:Value} {l:List Int} {n:Int} (w:World) (hv:Ints w.cell? v l):
  Calls Try.prog 165 #[v,.int .i64 n] w fun e w'=>e=.returned (.int .i64 (idxOf (fun x=>n==x) l))∧Grow w w':=by
 obtain⟨a,cap,rfl,h1,h2,-,hel⟩:=hv
 unfold maxLen at h2
 go_enter Try.func165,Try.ntmps165
 go_wp2
 go_loopw [4,5,8] (fun _ _ i wr=>∃k:Nat,k≤l.length∧i=.int .i64 k∧Grow w wr∧(l.take k).findIdx? (fun x=>n==x)=none) (fun _ _ i _=>l.length - (intOf i).toNat)
 case atStart=>exact⟨0,by omega,rfl,grA,by simp⟩
 case round=>
  obtain⟨k,hk',rfl,hb,hE⟩:=hrel
  by_cases hlt:k<l.length
  ·obtain⟨b,o,rfl,c0,-⟩:=intAt hel k hlt
   replace c0:=hb.sub _ _ c0
   obtain⟨s1,s2⟩:=idx_step hlt hE
   have S1:=η s1
   have S2:=η s2
   clear hel hE s1 s2
   generalize l[k]=x at*
   cases ht:(n==x)
   ·have S3:=η (S2.o ht)
    clear S1 S2
    go_wp2
    go_roundw
    case rel=>exact⟨k+1,by omega,by go_num,grA,S3.o⟩
    case measure=>simp [intOf];omega
   ·have S3:=η (S1.o ht)
    clear S1 S2
    go_wp2
    go_ret
    exact⟨ret_int S3.o.symm,grA⟩
  ·have HE:=η hE
   clear hel hE
   go_wp2
   go_ret
   refine⟨ret_int ?_,hb⟩
   have h9:=HE.o
   rw [List.take_of_length_le (by omega)] at h9
   unfold idxOf
   rw [h9]
theorem contains_int {v:Value} {l:List Int} {n:Int} (w:World) (hv:Ints w.cell? v l):
  Calls Try.prog 128 #[v,.int .i64 n] w fun e w'=>e=.returned (.bool (decide (n∈l)))∧Grow w w':=by
 have HI:=η (index_int (n:=n) w hv)
 have HN:Hid (decide (0≤idxOf (fun x=>n==x) l)=decide (n∈l)):=by
  show _=_
  rw [idxOf_nonneg,Bool.eq_iff_iff,List.any_eq_true,decide_eq_true_eq]
  constructor
  ·rintro⟨x,hx,h⟩
   have:n=x:=by simpa using h
   rw [this];exact hx
  ·intro h;exact⟨n,h,by simp⟩
 clear hv
 generalize idxOf (fun x=>n==x) l=i at*
 go_enter Try.func128,Try.ntmps128
 go_wp2_with (go_at_call 165;refine HI.o.mono ?_;rintro e w' ⟨rfl,hb'⟩)
 go_ret
 exact⟨ret_bool HN.o,hb'⟩
abbrev zrow:Array Value:=#[.slice none 0 0,.int .i64 0,.int .i64 0,.int .i64 0,.int .i64 0,.slice none 0 0,.slice none 0 0]
def hmem (w w1 wr:World) (vl vr vd:Value):CM:=fr w wr [vl.ownBlock,vr.ownBlock,vd.ownBlock,some w.heap.size,some w1.heap.size]
structure LBox (w w1 wr:World) (vl vr vd:Value) (l:List Rc) (h:Hs):Prop where
 res:wr.heap[w.heap.size]? =some (.cells zrow 29 (0,0))
 row:wr.heap[w1.heap.size]? =some (.cells #[vl,.int .i64 h.sums.a,.int .i64 h.sums.b,.int .i64 h.sums.c,.int .i64 h.sums.d,vr,vd] 29 (0,0))
 log:OwnC Ty.rc (hmem w w1 wr vl vr vd) wr (w.heap.size+1) 48 vl l
 ready:OwnC Ty.rd (hmem w w1 wr vl vr vd) wr (w1.heap.size+1) 45 vr h.ready
 done:wr.ownsRow (w1.heap.size+1) 3 1 vd h.done.length (h.done.flatMap intCell)
 grow:Grow w wr
 size:w1.heap.size+1≤wr.heap.size
 lt:∀k,vl.ownBlock=some k→k<w1.heap.size
 w1:w.heap.size+1≤w1.heap.size
 disj:vr.ownBlock=none∨vr.ownBlock≠vd.ownBlock
structure Chg (w1 wr w':World) (vr vd vr' vd':Value):Prop where
 size:wr.heap.size≤w'.heap.size
 block:∀k,k<wr.heap.size→k≠w1.heap.size→vr.ownBlock≠some k→vd.ownBlock≠some k→w'.heap[k]? =wr.heap[k]?
 ready:vr'.ownBlock=vr.ownBlock∨∃g,vr'.ownBlock=some g∧wr.heap.size≤g
 done:vd'.ownBlock=vd.ownBlock∨∃g,vd'.ownBlock=some g∧wr.heap.size≤g
theorem Chg.mem {w w1 wr w':World} {vl vr vd vr' vd':Value} (c:Chg w1 wr w' vr vd vr' vd'):Sub (hmem w w1 wr vl vr vd) (hmem w w1 w' vl vr' vd'):=by
 refine fr_step fun k hk _ hx=>?_
 simp only [List.mem_cons,List.not_mem_nil,or_false,not_or] at hx ⊢
 obtain⟨x1,x2,x3,x4,x5⟩:=hx
 refine⟨c.block k hk (fun e=>x5 (by rw [e])) (fun e=>x2 e.symm) (fun e=>x3 e.symm),x1,?_,?_,x4,x5⟩
 ·rcases c.ready with e|⟨g,e,hg⟩
  ·rw [e];exact x2
  ·rw [e];simp;omega
 ·rcases c.done with e|⟨g,e,hg⟩
  ·rw [e];exact x3
  ·rw [e];simp;omega
theorem owns_block {w w':World} {base e size n:Nat} {v:Value} {xs:List Value} (h:w.ownsRow base e size v n xs) (hb:∀k,v.ownBlock=some k→w'.heap[k]? =w.heap[k]?):w'.ownsRow base e size v n xs:=by
 obtain⟨hl,h'|⟨g,cap,cur,rfl,hg,hrow,hrest⟩⟩:=h
 ·exact⟨hl,.inl h'⟩
 ·exact⟨hl,.inr ⟨g,cap,cur,rfl,hg,by rw [hb g rfl];exact hrow,hrest⟩⟩
theorem OwnC.block {α:Type} {T:Ty α} {c:CM} {w w':World} {base e:Nat} {v:Value} {l:List α} (h:OwnC T c w base e v l) (hb:∀k,v.ownBlock=some k→w'.heap[k]? =w.heap[k]?):OwnC T c w' base e v l:=by
 obtain⟨css,k1,k2,k3⟩:=h
 exact⟨css,owns_block k1 hb,k2,k3⟩
theorem LBox.put {w w1 wr w':World} {vl vr vd vr' vd':Value} {l:List Rc} {h h':Hs} (b:LBox w w1 wr vl vr vd l h) (c:Chg w1 wr w' vr vd vr' vd') (hG:Grow w w')
  (row:w'.heap[w1.heap.size]? =some (.cells #[vl,.int .i64 h'.sums.a,.int .i64 h'.sums.b,.int .i64 h'.sums.c,.int .i64 h'.sums.d,vr',vd'] 29 (0,0)))
  (ready:OwnC Ty.rd (hmem w w1 w' vl vr' vd') w' (w1.heap.size+1) 45 vr' h'.ready) (done:w'.ownsRow (w1.heap.size+1) 3 1 vd' h'.done.length (h'.done.flatMap intCell)) (disj:vr'.ownBlock=none∨vr'.ownBlock≠vd'.ownBlock):LBox w w1 w' vl vr' vd' l h' where
 res:=by
  have h1:=b.w1
  have h2:=b.size
  rw [c.block _ (by omega) (by omega) (fun e=>by have:=(b.ready.lt _ e).1;omega) (fun e=>by have:=(b.done.lt _ e).1;omega)];exact b.res
 row:=row
 log:=by
  refine(b.log.mono c.mem).block fun k hk=>?_
  have h1:=b.lt k hk
  have h2:=b.size
  exact c.block k (by omega) (by omega) (fun e=>by have:=(b.ready.lt _ e).1;omega) (fun e=>by have:=(b.done.lt _ e).1;omega)
 ready:=ready
 done:=done
 grow:=hG
 size:=Nat.le_trans b.size c.size
 lt:=b.lt
 w1:=b.w1
 disj:=disj
theorem LBox.later {w w1 wr w':World} {vl vr vd:Value} {l:List Rc} {h:Hs} (b:LBox w w1 wr vl vr vd l h) (hg:Grow wr w'):LBox w w1 w' vl vr vd l h:=
 have c:Chg w1 wr w' vr vd vr vd:=⟨hg.size,fun k hk _ _ _=>hg.block k hk,.inl rfl,.inl rfl⟩
 b.put c (b.grow.trans hg) (row_grow b.row hg) ((b.ready.mono c.mem).grow hg) (b.done.kept (grownBy_of_grow hg none) (by cases vd.ownBlock<;>simp)) b.disj
theorem row_set5' {w:World} {B:Nat} {a b c d e f g:Value} {t:TypeId} (h:w.heap[B]? =some (.cells #[a,b,c,d,e,f,g] t (0,0))) (u:Value):(w.setCell ⟨B,5,none⟩ u).heap[B]? =some (.cells #[a,b,c,d,e,u,g] t (0,0)):=by
 simp only [World.setCell,Array.getElem?_modify,h];simp
theorem LBox.appR {w w1 wr wq w':World} {vl vr vd:Value} {l:List Rc} {h:Hs} {x:Rd} {a':Option Addr} {n c':Nat} (b:LBox w w1 wr vl vr vd l h) (hG:Grow wr wq)
  (ho:OwnC Ty.rd (hmem w w1 wq vl vr vd) w' (w1.heap.size+1) 45 (.slice a' n c') (h.ready++ [x])) (hg:wq.grownBy w' vr.ownBlock) (hb:(Value.slice a' n c').ownBlock=vr.ownBlock∨∃g,(Value.slice a' n c').ownBlock=some g∧wq.heap.size≤g):
  LBox w w1 (w'.setCell ⟨w1.heap.size,5,none⟩ (.slice a' n c')) vl (.slice a' n c') vd l { h with ready:=h.ready++ [x] }∧Chg w1 wr (w'.setCell ⟨w1.heap.size,5,none⟩ (.slice a' n c')) vr vd (.slice a' n c') vd:=by
 have bq:=b.later hG
 have hs:=hG.size
 have hs1:=b.size
 have hw1:=b.w1
 have hlt:=bq.ready.lt
 have hdl:=bq.done.lt
 have hB:∀k,k≠w1.heap.size→(w'.setCell ⟨w1.heap.size,5,none⟩ (.slice a' n c')).heap[k]? =w'.heap[k]?:=fun k hk=>Below.heap_setCell _ _ _ _ (fun e=>hk e)
 have c1:Chg w1 wq (w'.setCell ⟨w1.heap.size,5,none⟩ (.slice a' n c')) vr vd (.slice a' n c') vd:=⟨by simpa using hg.size,fun k hk h1 h2 _=>by rw [hB k h1,hg.block k hk (fun e=>h2 e.symm)],hb,.inl rfl⟩
 have hGw:Grow w (w'.setCell ⟨w1.heap.size,5,none⟩ (.slice a' n c')):=(bq.grow.grown hg (fun k hk=>by have:=(hlt k hk).1;omega)).setCell (by simp;omega) _
 have hdj:∀k,vd.ownBlock=some k→vr.ownBlock≠some k:=fun k hk e=>by
  rcases b.disj with d|d
  ·rw [d] at e;cases e
  ·exact d (e.trans hk.symm)
 refine⟨bq.put c1 hGw (row_set5' (row_by bq.row hg (fun e=>by have:=(hlt _ e.symm).1;omega)) _) ((ho.mono c1.mem).block fun k hk=>?_) (owns_block bq.done fun k hk=>?_) ?_,?_⟩
 ·exact hB k (by have:=(ho.lt k hk).1;omega)
 ·have:=hdl k hk
  rw [hB k (by omega),hg.block k this.2 (fun e=>hdj k hk e.symm)]
 ·rcases hb with e|⟨g,e,hge⟩
  ·rw [e];exact b.disj
  ·right;rw [e];intro e'
   have:=hdl g e'.symm;omega
 ·exact⟨Nat.le_trans hs c1.size,fun k hk h1 h2 h3=>(c1.block k (by omega) h1 h2 h3).trans (hG.block k hk),by
   rcases hb with e|⟨g,e,hge⟩
   ·exact .inl e
   ·exact .inr ⟨g,e,by omega⟩,.inl rfl⟩
theorem cells3 {w:World} {B:Nat} {a b c:Value} {t:TypeId} (h:w.heap[B]? =some (.cells #[a,b,c] t (0,0))):w.cell? ⟨B,0,none⟩=some a∧w.cell? ⟨B,1,none⟩=some b∧w.cell? ⟨B,2,none⟩=some c:=by
 refine⟨?_,?_,?_⟩<;>simp [World.cell?,h]
theorem flat_ints (l:List Int):l.flatMap intCell=l.map (Value.int .i64):=by
 induction l with
 |nil=>rfl
 |cons x l ih=>rw [List.flatMap_cons,ih];rfl
theorem own_sort {w:World} {base:Nat} {v:Value} {l:List Int} (h:w.ownsRow base 3 1 v l.length (l.flatMap intCell)) (hne:l≠ []) (hs:l.length<4611686018427387904):
  ∃g,v.ownBlock=some g∧base≤g∧Calls Try.prog 139 #[v] w fun e w'=>e=.returned (.tuple #[])∧w'.ownsRow base 3 1 v (l.mergeSort fun x y=>decide (x≤y)).length ((l.mergeSort fun x y=>decide (x≤y)).flatMap intCell)∧w.grownBy w' (some g):=by
 obtain⟨hl,⟨rfl,hn⟩|⟨g,cap,cur,rfl,hg,hrow,hnc,hcm,hcs,htake⟩⟩:=h
 ·exact absurd (List.eq_nil_of_length_eq_zero hn) hne
 ·have ht:cur.toList.take l.length=l.map (Value.int .i64):=by rw [←flat_ints,←htake,Nat.mul_one]
  refine⟨g,rfl,hg,(Try.slices_Sort_int g 0 cap l w (holds_of_blockI hrow ht) (γ hrow) hs).mono fun e w' ⟨he,n,os,hw⟩=>⟨he,?_,?_⟩⟩
  ·have e:(l.mergeSort fun x y=>decide (x≤y)).length=l.length:=List.length_mergeSort _
   rw [hw,flat_ints,e]
   exact ownsRow_sortedI e hg hrow hnc hcm hcs
  ·rw [hw]
   exact grownBy_sortedI _
theorem dedup_snoc:∀(l:List Pt) (had:List Int) (p:Pt),dedupE had (l++ [p])=if p.h∈dedupE had l then dedupE had l else dedupE had l++ [p.h]
 | [],had,p=>rfl
 |q::l,had,p=>by rw [List.cons_append,dedupE,dedupE,dedup_snoc l]
theorem dedup_ok {l:List Pt} (h:∀p∈l,I64 p.h):∀x∈dedupE [] l,I64 x:=fun x hx=>by
 rcases dedup_mem.1 hx with h0|⟨p,hp,rfl⟩
 ·simp at h0
 ·exact h p hp
theorem dedup_ne {l:List Pt} (h:l≠ []):dedupE [] l≠ []:=by
 intro e
 cases l with
 |nil=>exact h rfl
 |cons p l=>
  have:p.h∈dedupE [] (p::l):=dedup_mem.2 (.inr ⟨p,List.mem_cons_self,rfl⟩)
  rw [e] at this
  simp at this
set_option maxRecDepth 100000 in
set_option maxHeartbeats 1000000 in
theorem part_houses {v:Value} {l:List Pt} (w:World) (hv:Pts w.cell? v l) (hm:l.length*24≤140737488355328) (hne:l≠ []) (hp:∀p∈l,0≤p.h∧p.h<3):
  Calls Try.prog 81 #[v] w fun e w'=>∃v',e=.returned v'∧w'.ownsRow w.heap.size 3 1 v' (housesE l).length ((housesE l).flatMap intCell)∧Grow w w':=by
 have hok:=Pts.ok hv
 have HOK:=η (fun k=>dedup_ok (l:=l.take k) fun p hp=>(hok p (List.mem_of_mem_take hp)).1)
 have HNE:=η (dedup_ne hne)
 have HSO:=η (houses_sort hp)
 have HM:=η hm
 obtain⟨a,cap,rfl,h1,h2,-,hel⟩:=hv
 unfold maxLen at h2
 clear hok hp hne hm
 go_enter Try.func81,Try.ntmps81
 go_wp2
 go_loopw [3,8] (fun v i wr=>∃k:Nat,k≤l.length∧i=.int .i64 k∧Grow w wr∧wr.ownsRow w.heap.size 3 1 v (dedupE [] (l.take k)).length ((dedupE [] (l.take k)).flatMap intCell)) (fun _ i _=>l.length - (intOf i).toNat)
 case atStart=>exact⟨0,by omega,rfl,Grow.refl _,World.ownsRow_nil _ _ _ _⟩
 case round=>
  obtain⟨k,hk',rfl,hb,hown⟩:=hrel
  obtain⟨a1,c1,rfl⟩:=owns_form hown
  by_cases hlt:k<l.length
  ·obtain⟨b,o,rfl,c0,d1,d2,-,-,-⟩:=Pts.at_ hel k hlt
   replace c0:=hb.sub _ _ c0
   replace d1:=hb.sub _ _ d1
   replace d2:=hb.sub _ _ d2
   have hD:dedupE [] (l.take (k+1))=if l[k].h∈dedupE [] (l.take k) then dedupE [] (l.take k) else dedupE [] (l.take k)++ [l[k].h]:=by
    rw [List.take_succ_eq_append_getElem hlt,dedup_snoc]
   have HD:=η hD
   have hle:(dedupE [] (l.take k)).length≤k:=by have:=dedup_len (l.take k) [];simp at this;omega
   have HIN:=η (fun(W:World) (hW:Grow wr W)=>contains_int (n:=l[k].h) W ((Ints.of_own hown (HOK.o k)).mono hW.sub))
   have HOW:=η hown
   have HB:=η hb
   clear hel hown hD hb
   generalize dedupE [] (l.take k)=acc at*
   generalize l[k]=p at*
   obtain⟨ph,pk,pn⟩:=p
   simp only at c0 d1 d2
   go_wp2_with fail
   refine(HIN.o _ ((Grow.refl wr).alloc _)).mono ?_
   by_cases hin:ph∈acc
   ·rw [decide_eq_true hin]
    rintro e w3 ⟨rfl,hb3⟩
    have HB3:=η ((HB.o.alloc _).trans hb3)
    have HO3:=η (owns_grow HOW.o (((Grow.refl wr).alloc _).trans hb3))
    have HI:=η hin
    clear hb3 hin
    go_wp2
    go_roundw
    case rel=>exact⟨k+1,by omega,by go_num,HB3.o,by rw [HD.o,if_pos HI.o];exact HO3.o⟩
    case measure=>simp [intOf];omega
   ·rw [decide_eq_false hin]
    rintro e w3 ⟨rfl,hb3⟩
    have R3:=η (row_grow (row_new wr (.cells #[.int .i64 ph,.int .i64 pk,.int .i64 pn] 32)) hb3)
    have HB3:=η ((HB.o.alloc (.cells #[.int .i64 ph,.int .i64 pk,.int .i64 pn] 32)).trans hb3)
    have HO3:=η (owns_grow HOW.o (((Grow.refl wr).alloc _).trans hb3))
    have HI:=η hin
    clear hb3 hin
    obtain⟨q0,q1,q2⟩:=cells3 R3.o
    have zq:wr.heap.size<w3.heap.size:=(γ R3.o)
    go_wp2_with (at_builtin;refine app1 ei_int rfl _ _ rfl HB3.o rfl HO3.o rfl (by simp) rfl (by simp [Value.oneCell']) (by have:=HM.o;omega) (by decide) ?_;intro v' w' hown' hb' _)
    go_roundw
    case rel=>exact⟨k+1,by omega,by go_num,hb',by rw [HD.o,if_neg HI.o];simpa [intCell] using hown'⟩
    case measure=>simp [intOf];omega
  ·have hk2:k=l.length:=by omega
   rw [List.take_of_length_le (by omega)] at hown
   have hln:(dedupE [] l).length≤l.length:=by have:=dedup_len l [];simp at this;omega
   obtain⟨g,hg1,hg2,hc⟩:=own_sort hown HNE.o (by have:=HM.o;omega)
   rw [HSO.o] at hc
   have HC:=η hc
   have HB:=η hb
   clear hel hc hown hb
   go_wp2_with fail
   refine HC.o.mono ?_
   rintro e w3 ⟨rfl,hown3,hg3⟩
   have HO3:=η hown3
   have HG3:Hid (Grow w w3):=η (HB.o.grown hg3 fun k hk=>by obtain rfl:=Option.some.inj hk;exact hg2)
   clear hown3 hg3
   go_wp2
   go_ret
   exact⟨_,rfl,HO3.o,HG3.o⟩
end Go.Proofs.Ytgbhpghgohggcaa
namespace Go.Proofs.Ytgbhpghgohggcaa
def partBytes (p:Pt):List UInt8:=numB p.k++numB p.n
def msgHead (m:Ms):List UInt8:=UInt8.ofNat m.kind.toNat::(numB m.deed++(numB m.house++(numB m.parts.length++m.parts.flatMap partBytes)))
def sealB (b:List UInt8):List UInt8:=b++ [UInt8.ofNat (sumB b/256),UInt8.ofNat (sumB b)]
def bytesM (m:Ms):List UInt8:=sealB (msgHead m)
def ms0:Ms:=⟨0,0,0,[]⟩
def getN:Nat→List UInt8→Sum (List Int×List UInt8) Int
 |0,b=>.inl ([],b)
 |n+1,b=>if(getB b).2.2=0 then(match getN n (b.drop (getB b).2.1.toNat) with
   | .inl (xs,r)=>.inl ((getB b).1::xs,r)
   | .inr e=>.inr e) else .inr (getB b).2.2
def pairs (h:Int):List Int→List Pt
 |k::n::l=>⟨h,k,n⟩::pairs h l
 |_=>[]
def nums (l:List Pt):List Int:=l.flatMap fun p=>[p.k,p.n]
def readBody (kind:Int) (l:List UInt8):Ms×Int:=
 match getN 3 l with
 | .inr e=>(ms0,e)
 | .inl (xs,r)=>
  if xs.getD 2 0<0∨4<xs.getD 2 0 then(ms0,5) else
  match getN (2*(xs.getD 2 0).toNat) r with
  | .inr e=>(ms0,e)
  | .inl (ys,r')=>if r'≠ [] then(ms0,2) else
   if wrongM ⟨kind,xs.getD 0 0,xs.getD 1 0,pairs (xs.getD 1 0) ys⟩=0 then(⟨kind,xs.getD 0 0,xs.getD 1 0,pairs (xs.getD 1 0) ys⟩,0)
   else(ms0,wrongM ⟨kind,xs.getD 0 0,xs.getD 1 0,pairs (xs.getD 1 0) ys⟩)
def sumOk (b:List UInt8):Bool:=decide (sumB (b.take (b.length - 2))=256*(b.getD (b.length - 2) 0).toNat+(b.getD (b.length - 1) 0).toNat)
def readB (b:List UInt8):Ms×Int:=
 if b.length<3 then(ms0,8) else if sumOk b=true then readBody ((b.getD 0 0).toNat:Nat) ((b.take (b.length - 2)).drop 1) else(ms0,7)
theorem getN_nums:∀(xs:List Int) (r:List UInt8),(∀x∈xs,zig x<128^6)→getN xs.length (xs.flatMap numB++r)=.inl (xs,r)
 | [],r,_=>rfl
 |x::xs,r,h=>by
  have h1:=get_num (n:=x) (xs.flatMap numB++r) (h x List.mem_cons_self)
  rw [List.flatMap_cons,List.append_assoc,List.length_cons,getN,h1]
  simp only [if_true,Int.toNat_natCast,List.drop_left]
  rw [getN_nums xs r fun y hy=>h y (List.mem_cons_of_mem _ hy)]
theorem nums_bytes:∀l:List Pt,l.flatMap partBytes=(nums l).flatMap numB
 | []=>rfl
 |p::l=>by
  show partBytes p++l.flatMap partBytes=([p.k,p.n]++nums l).flatMap numB
  rw [nums_bytes l,List.flatMap_append]
  simp [partBytes]
theorem nums_len:∀l:List Pt,(nums l).length=2*l.length
 | []=>rfl
 |p::l=>by
  show([p.k,p.n]++nums l).length=_
  rw [List.length_append,nums_len l];simp;omega
theorem pairs_nums {h:Int}:∀{l:List Pt},(∀p∈l,p.h=h)→pairs h (nums l)=l
 | [],_=>rfl
 |p::l,hp=>by
  show(⟨h,p.k,p.n⟩:Pt)::pairs h (nums l)=_
  rw [pairs_nums fun q hq=>hp q (List.mem_cons_of_mem _ hq),←hp p List.mem_cons_self]
theorem nums_pairs {h:Int}:∀(n:Nat) {ys:List Int},ys.length=2*n→nums (pairs h ys)=ys∧(pairs h ys).length=n
 |0,ys,hl=>by
  obtain rfl:ys=[]:=List.eq_nil_of_length_eq_zero (by omega)
  exact⟨rfl,rfl⟩
 |n+1,ys,hl=>by
  match ys,hl with
  | [],hl=>simp at hl
  | [x],hl=>simp at hl;omega
  |k::x::ys,hl=>
   obtain⟨e1,e2⟩:=nums_pairs (h:=h) n (ys:=ys) (by simp at hl;omega)
   refine⟨?_,?_⟩
   ·show [k,x]++nums (pairs h ys)=_
    rw [e1];rfl
   ·show(pairs h ys).length+1=_
    rw [e2]
theorem zig_lt {n:Int} (h1:-2199023255552<n) (h2:n<2199023255552):zig n<128^6:=by
 have:(128:Nat)^6=4398046511104:=by decide
 rw [this]
 unfold zig
 split<;>omega
theorem RightM.len {m:Ms} (h:RightM m):m.parts.length≤4:=by
 by_cases hk:m.kind=1
 ·exact(wrong_ok (h.parts hk).1).2.1
 ·rw [h.none hk];simp
theorem RightM.pts {m:Ms} (h:RightM m):∀p∈m.parts,p.h=m.house∧0≤p.k∧p.k<4∧p.n≤1048576∧-1048576≤p.n:=by
 by_cases hk:m.kind=1
 ·intro p hp
  have:=(wrong_ok (h.parts hk).1).2.2.1 p hp
  exact⟨(h.parts hk).2 p hp,this.2.2⟩
 ·rw [h.none hk];simp
theorem head_nums (m:Ms):msgHead m=UInt8.ofNat m.kind.toNat::([m.deed,m.house,(m.parts.length:Int)].flatMap numB++(nums m.parts).flatMap numB):=by
 unfold msgHead
 rw [nums_bytes]
 simp
theorem read_body {m:Ms} (h:RightM m) (hw:wrongM m=0):readBody m.kind ([m.deed,m.house,(m.parts.length:Int)].flatMap numB++(nums m.parts).flatMap numB)=(m,0):=by
 have hl:=h.len
 have h1:=getN_nums [m.deed,m.house,(m.parts.length:Int)] ((nums m.parts).flatMap numB) (by
  intro x hx
  have h1:=h.deed
  have h2:=h.house
  simp only [List.mem_cons,List.not_mem_nil,or_false] at hx
  rcases hx with rfl|rfl|rfl<;>exact zig_lt (by omega) (by omega))
 have h2:=getN_nums (nums m.parts) [] (by
  intro x hx
  obtain⟨p,hp,hx⟩:=List.mem_flatMap.1 hx
  have:=h.pts p hp
  simp only [List.mem_cons,List.not_mem_nil,or_false] at hx
  rcases hx with rfl|rfl<;>exact zig_lt (by omega) (by omega))
 rw [nums_len,List.append_nil] at h2
 unfold readBody
 rw [show(3:Nat)=[m.deed,m.house,(m.parts.length:Int)].length from rfl,h1]
 simp only [List.getD_cons_succ,List.getD_cons_zero]
 rw [if_neg (by omega),Int.toNat_natCast,h2]
 simp only [ne_eq,not_true,if_false]
 rw [pairs_nums fun p hp=>(h.pts p hp).1]
 show(if wrongM m=0 then(m,(0:Int)) else _)=_
 rw [if_pos hw]
theorem seal_len (b:List UInt8):(sealB b).length=b.length+2:=by simp [sealB]
theorem seal_ok (b:List UInt8):sumOk (sealB b)=true∧(sealB b).take ((sealB b).length - 2)=b:=by
 have hl:=seal_len b
 have ht:(sealB b).take ((sealB b).length - 2)=b:=by rw [hl];simp [sealB]
 refine⟨?_,ht⟩
 have hs:=sumB_lt b
 have e1:(sealB b).getD ((sealB b).length - 2) 0=UInt8.ofNat (sumB b/256):=by rw [hl];simp [sealB]
 have e2:(sealB b).getD ((sealB b).length - 1) 0=UInt8.ofNat (sumB b):=by
  rw [hl,show b.length+2 - 1=b.length+1 by omega]
  simp [sealB,List.getD_eq_getElem?_getD]
 unfold sumOk
 rw [ht,e1,e2,decide_eq_true_eq,ofNat_small (by omega),UInt8.toNat_ofNat']
 omega
theorem read_bytes {m:Ms} (hw:wrongM m=0):readB (bytesM m)=(m,0):=by
 have h:=right_m.1 hw
 obtain⟨h1,h2⟩:=seal_ok (msgHead m)
 unfold readB bytesM
 have hp:0<(msgHead m).length:=by unfold msgHead;simp
 rw [if_neg (by rw [seal_len];omega),if_pos h1,h2,head_nums]
 rw [List.drop_succ_cons,List.drop_zero]
 have e:((sealB (UInt8.ofNat m.kind.toNat::([m.deed,m.house,(m.parts.length:Int)].flatMap numB++(nums m.parts).flatMap numB))).getD 0 0)=UInt8.ofNat m.kind.toNat:=by
  unfold sealB;rw [List.cons_append];rfl
 have hk:=h.kind
 rw [e,ofNat_small (by omega),show((m.kind.toNat:Nat):Int)=m.kind by omega]
 exact read_body h hw
end Go.Proofs.Ytgbhpghgohggcaa
namespace Go.Proofs.Ytgbhpghgohggcaa
open Go.RowKit
theorem OwnB.grow {w w':World} {base:Nat} {v:Value} {b:List UInt8} (h:OwnB w base v b) (hg:Grow w w'):OwnB w' base v b:=owns_grow h hg
theorem OwnB.bts {w:World} {base:Nat} {v:Value} {b:List UInt8} (h:OwnB w base v b):Bts w.cell? v b:=Bts.of_own h
theorem MoreB.row {w w':World} {v v':Value} {B:Nat} {o:Obj} (h:MoreB w w' v v') (hr:w.heap[B]? =some o) (hne:∀k,v.ownBlock=some k→B≠k):w'.heap[B]? =some o:=
 row_by hr h.1 (fun e=>hne B e.symm rfl)
theorem flat_snoc {α:Type} (f:α→List UInt8) {l:List α} {k:Nat} (h:k<l.length):(l.take (k+1)).flatMap f=(l.take k).flatMap f++f l[k]:=by
 rw [List.take_succ_eq_append_getElem h,List.flatMap_append]
 simp
theorem i64_of {n:Int} (h1:-9223372036854775808≤n) (h2:n≤9223372036854775807):I64 n:=by
 unfold I64
 simp [Lit.wf,IntKind.min,IntKind.max,IntKind.signed,IntKind.bits];omega
theorem kind_byte {k:Int} (h:0≤k∧k<256):k=((UInt8.ofNat k.toNat).toNat:Int):=by
 rw [UInt8.toNat_ofNat']
 omega
theorem partBytes_len {p:Pt} (h1:I64 p.k) (h2:I64 p.n):(partBytes p).length≤20:=by
 unfold partBytes
 rw [List.length_append]
 have a:=numB_len (i64_bounds h1).1 (i64_bounds h1).2
 have b:=numB_len (i64_bounds h2).1 (i64_bounds h2).2
 omega
theorem partsBytes_len:∀{l:List Pt},PtsOk l→(l.flatMap partBytes).length≤20*l.length
 | [],_=>by simp
 |p::l,h=>by
  have h2:=partBytes_len (h p List.mem_cons_self).2.1 (h p List.mem_cons_self).2.2
  have h3:=partsBytes_len (l:=l) fun q hq=>h q (List.mem_cons_of_mem _ hq)
  rw [List.flatMap_cons,List.length_append,List.length_cons]
  omega
theorem two_bytes {x y:Int} {z1 z2:UInt8} (h1:x=(z1.toNat:Int)) (h2:y=(z2.toNat:Int)):[Value.int .u8 x,Value.int .u8 y]=[z1,z2].flatMap byteCell:=by
 rw [h1,h2];rfl
theorem get_more {b:List UInt8} {k u:Nat} {X:Int×Int×Int} (h:getGo k u (b.drop k)=X) (hk:k<b.length):(if 6≤k then((0:Int),(0:Int),(3:Int)) else if 128≤b[k].toNat then getGo (k+1) (u+b[k].toNat % 128*128^k) (b.drop (k+1))
  else if 0<k∧b[k].toNat=0 then(0,0,2) else(zag (u+b[k].toNat % 128*128^k),(k:Int)+1,0))=X:=by
 rw [List.drop_eq_getElem_cons hk,getGo] at h
 exact h
theorem get_end {b:List UInt8} {k u:Nat} {X:Int×Int×Int} (h:getGo k u (b.drop k)=X) (hk:¬k<b.length):((0:Int),(0:Int),(8:Int))=X:=by
 rw [List.drop_of_length_le (by omega),getGo] at h
 exact h
theorem ret_3 {x y z:Int} {X:Int×Int×Int} (h:(x,y,z)=X):Ending.returned (.tuple #[.int .i64 x,.int .i64 y,.int .i64 z])=.returned (.tuple #[.int .i64 X.1,.int .i64 X.2.1,.int .i64 X.2.2]):=by rw [←h]
theorem get_next {u x k:Nat} (hk:k<6) (hu:u<128^k):u+x % 128*128^k<128^(k+1)∧u+x % 128*128^k<4398046511104:=by
 have hm:x % 128*128^k≤127*128^k:=Nat.mul_le_mul_right _ (by omega)
 have h6:(128:Nat)^(k+1)≤128^6:=Nat.pow_le_pow_right (by decide) (by omega)
 have h5:(128:Nat)^6=4398046511104:=by decide
 have h7:(128:Nat)^(k+1)=128*128^k:=by rw [Nat.pow_succ,Nat.mul_comm]
 omega
set_option maxHeartbeats 2000000 in
set_option maxRecDepth 100000 in
theorem ref_get {v:Value} {b:List UInt8} (w:World) (hv:Bts w.cell? v b):
  Calls Try.prog 135 #[v] w fun e w'=>e=.returned (.tuple #[.int .i64 (getB b).1,.int .i64 (getB b).2.1,.int .i64 (getB b).2.2])∧Grow w w':=by
 obtain⟨a,cap,rfl,h1,h2,-,hel⟩:=hv
 unfold maxLen at h2
 go_enter Try.func135,Try.ntmps135
 go_wp2
 go_loopw [5,6,7] (fun u g i wr=>∃k q p:Nat,k≤b.length∧k≤6∧i=.int .i64 k∧u=.int .i64 q∧g=.int .i64 p∧p=128^k∧q<128^k∧getGo k q (b.drop k)=getB b∧Grow w wr) (fun _ _ i _=>b.length - (intOf i).toNat)
 case atStart=>exact⟨0,0,1,by omega,by omega,rfl,rfl,rfl,rfl,by simp,rfl,grA⟩
 case round=>
  obtain⟨k,u,p,hk',hk6,rfl,rfl,rfl,hp,hu,hE,hb⟩:=hrel
  by_cases hlt:k<b.length
  ·obtain⟨bb,o,rfl,c0⟩:=byteAt hel k hlt
   replace c0:=hb.sub _ _ c0
   have hE2:=get_more hE hlt
   have hx:=b[k].toNat_lt
   clear hel hE
   obtain⟨x,hxe⟩:∃x,x=b[k].toNat:=⟨_,rfl⟩
   rw [←hxe] at c0 hx hE2
   clear hxe
   have hne:((k:Int)==(b.length:Int))=false:=by rw [beq_eq_false_iff_ne];omega
   by_cases h6:6≤k
   ·rw [if_pos h6] at hE2
    have HE:=η hE2
    have h6e:((k:Int)==6)=true:=by rw [beq_iff_eq];omega
    clear hE2 hp hu
    go_wp2
    refine bodyPost_ret (v:=.tuple #[.int .i64 0,.int .i64 0,.int .i64 3]) (by simp [results,Try.results135,go_sem]) rfl ?_
    exact⟨ret_3 HE.o,hb⟩
   ·rw [if_neg h6] at hE2
    have h6e:((k:Int)==6)=false:=by rw [beq_eq_false_iff_ne];omega
    obtain⟨hq1,hq2⟩:=get_next (x:=x) (by omega) hu
    have hp5:p≤34359738368:=by
     rw [hp]
     have h6:(128:Nat)^k≤128^5:=Nat.pow_le_pow_right (by decide) (by omega)
     have h5:(128:Nat)^5=34359738368:=by decide
     omega
    have HP:=η (show p*128=128^(k+1) by rw [hp,Nat.pow_succ])
    rw [←hp] at hE2 hq2 hq1 hu
    obtain⟨m,hm⟩:∃m,m=x % 128*p:=⟨_,rfl⟩
    rw [←hm] at hE2 hq2 hq1
    have hmul:((x:Int) % 128)*(p:Int)=(m:Int):=by rw [hm];simp
    obtain⟨q,hqe⟩:∃q,q=u+m:=⟨_,rfl⟩
    have hadd:(u:Int)+(m:Int)=(q:Int):=by omega
    have hqm:m≤q:=by omega
    rw [←hqe] at hE2 hq1 hq2
    have HQ1:=η hq1
    have HE:=η hE2
    clear hE2 hqe hq1 hu hp hm
    by_cases h8:128≤x
    ·go_wp2
     go_roundw
     case rel=>exact⟨k+1,q,p*128,by omega,by omega,by go_num,by go_num,by go_num,HP.o,HQ1.o,by have h9:=HE.o;rwa [if_pos h8] at h9,grA⟩
     case measure=>simp [intOf];omega
    ·by_cases h9:0<k∧x=0
     ·have HE2:=η (show((0:Int),(0:Int),(2:Int))=getB b by have h9':=HE.o;rwa [if_neg h8,if_pos h9] at h9')
      obtain⟨h9a,rfl⟩:=h9
      go_wp2
      refine bodyPost_ret (v:=.tuple #[.int .i64 0,.int .i64 0,.int .i64 2]) (by simp [results,Try.results135,go_sem]) rfl ?_
      exact⟨ret_3 HE2.o,grA⟩
     ·have HE2:=η (show(zag q,(k:Int)+1,(0:Int))=getB b by have h9':=HE.o;rwa [if_neg h8,if_neg h9] at h9')
      have hcase:(0<k∧¬x=0)∨¬0<k:=by
       by_cases hk0:0<k
       ·exact .inl ⟨hk0,fun e=>h9 ⟨hk0,e⟩⟩
       ·exact .inr hk0
      clear h9
      by_cases hodd:q % 2=1
      ·have HZ:Hid (zag q= -((q:Int)/2) - 1):=by show zag q=_;unfold zag;rw [if_pos hodd];simp
       have ho:((q:Int) % 2==1)=true:=by rw [beq_iff_eq];omega
       clear hodd
       rcases hcase with⟨hk0,hx0⟩|hk0
       ·have hbx:((x:Int)==0)=false:=by rw [beq_eq_false_iff_ne];omega
        clear hx0
        go_wp2
        refine bodyPost_ret (v:=.tuple #[.int .i64 (zag q),.int .i64 ((k:Int)+1),.int .i64 0]) (by simp [results,Try.results135,go_sem,HZ.o]) rfl ?_
        exact⟨ret_3 HE2.o,grA⟩
       ·go_wp2
        refine bodyPost_ret (v:=.tuple #[.int .i64 (zag q),.int .i64 ((k:Int)+1),.int .i64 0]) (by simp [results,Try.results135,go_sem,HZ.o]) rfl ?_
        exact⟨ret_3 HE2.o,grA⟩
      ·have HZ:Hid (zag q=(q:Int)/2):=by show zag q=_;unfold zag;rw [if_neg hodd];simp
       have ho:((q:Int) % 2==1)=false:=by rw [beq_eq_false_iff_ne];omega
       clear hodd
       rcases hcase with⟨hk0,hx0⟩|hk0
       ·have hbx:((x:Int)==0)=false:=by rw [beq_eq_false_iff_ne];omega
        clear hx0
        go_wp2
        refine bodyPost_ret (v:=.tuple #[.int .i64 (zag q),.int .i64 ((k:Int)+1),.int .i64 0]) (by simp [results,Try.results135,go_sem,HZ.o]) rfl ?_
        exact⟨ret_3 HE2.o,grA⟩
       ·go_wp2
        refine bodyPost_ret (v:=.tuple #[.int .i64 (zag q),.int .i64 ((k:Int)+1),.int .i64 0]) (by simp [results,Try.results135,go_sem,HZ.o]) rfl ?_
        exact⟨ret_3 HE2.o,grA⟩
  ·have HE:=η (get_end hE hlt)
   have hne:((k:Int)==(b.length:Int))=true:=by rw [beq_iff_eq];omega
   clear hE hp hu
   go_wp2
   refine bodyPost_ret (v:=.tuple #[.int .i64 0,.int .i64 0,.int .i64 8]) (by simp [results,Try.results135,go_sem]) rfl ?_
   exact⟨ret_3 HE.o,hb⟩
end Go.Proofs.Ytgbhpghgohggcaa
namespace Go.Proofs.Ytgbhpghgohggcaa
abbrev RS:=List UInt8×Int
theorem pairs_snoc (h:Int):∀(n:Nat) {xs:List Int} {k x:Int},xs.length=2*n→pairs h (xs++ [k,x])=pairs h xs++ [⟨h,k,x⟩]
 |0,xs,k,x,hl=>by
  obtain rfl:xs=[]:=List.eq_nil_of_length_eq_zero (by omega)
  rfl
 |n+1,xs,k,x,hl=>by
  match xs,hl with
  | [],hl=>simp at hl
  | [a],hl=>simp at hl;omega
  |a::b::xs,hl=>
   simp only [List.cons_append,pairs]
   rw [pairs_snoc h n (by simp at hl;omega)]
theorem zag_bound {u:Nat} (h:u<4398046511104):-2199023255552≤zag u∧zag u<2199023255552:=by
 unfold zag
 split<;>omega
theorem getGo_bound:∀(b:List UInt8) (i u:Nat),u<128^i→-2199023255552≤(getGo i u b).1∧(getGo i u b).1<2199023255552∧0≤(getGo i u b).2.1∧(getGo i u b).2.1≤i+b.length∧0≤(getGo i u b).2.2∧(getGo i u b).2.2≤8
 | [],i,u,_=>by
  rw [getGo]
  refine⟨by decide,by decide,by decide,?_,by decide,by decide⟩
  show(0:Int)≤_
  omega
 |c::b,i,u,hu=>by
  have hx:c.toNat % 128≤127:=by omega
  have hm:c.toNat % 128*128^i≤127*128^i:=Nat.mul_le_mul_right _ hx
  have hlt:u+c.toNat % 128*128^i<128^(i+1):=by
   rw [Nat.pow_succ];omega
  rw [getGo]
  split
  ·refine⟨by decide,by decide,by decide,?_,by decide,by decide⟩
   show(0:Int)≤_
   omega
  ·rename_i h6
   split
   ·have:=getGo_bound b (i+1) _ hlt
    simp only [List.length_cons]
    push_cast at this ⊢
    omega
   ·split
    ·refine⟨by decide,by decide,by decide,?_,by decide,by decide⟩
     show(0:Int)≤_
     omega
    ·have h6':(128:Nat)^(i+1)≤128^6:=Nat.pow_le_pow_right (by decide) (by omega)
     have e6:(128:Nat)^6=4398046511104:=by decide
     have:=zag_bound (u:=u+c.toNat % 128*128^i) (by omega)
     simp only [List.length_cons]
     push_cast
     refine⟨this.1,this.2,by omega,by omega,by decide,by decide⟩
theorem getB_bound (b:List UInt8):-2199023255552≤(getB b).1∧(getB b).1<2199023255552∧0≤(getB b).2.1∧(getB b).2.1≤b.length∧0≤(getB b).2.2∧(getB b).2.2≤8:=by
 have:=getGo_bound b 0 0 (by decide)
 unfold getB
 refine⟨this.1,this.2.1,this.2.2.1,?_,this.2.2.2.2⟩
 have h:=this.2.2.2.1
 simp only [Int.natCast_zero,Int.zero_add] at h
 exact h
end Go.Proofs.Ytgbhpghgohggcaa
namespace Go.Proofs.Ytgbhpghgohggcaa
open Go.RowKit
theorem Sl.drop {α:Type} {T:Ty α} {c:CM} {b o n cap:Nat} {l:List α} (h:Sl T c (.slice (some ⟨b,o,none⟩) n cap) l) (k:Nat) (hk:k≤n):Sl T c (.slice (some ⟨b,o+k*T.size,none⟩) (n - k) (cap - k)) (l.drop k):=by
 obtain⟨a',cap',he,h1,h2,h3,hel⟩:=h
 simp only [Value.slice.injEq] at he
 obtain⟨rfl,rfl,rfl⟩:=he
 refine⟨_,cap - k,by rw [List.length_drop],by rw [List.length_drop];omega,by omega,by simp,fun i x e=>?_⟩
 rw [List.getElem?_drop] at e
 obtain⟨b',o',cs,ha,hR,hA⟩:=hel _ x e
 simp only [Option.some.injEq,Addr.mk.injEq] at ha
 obtain⟨rfl,rfl,-⟩:=ha
 refine⟨b,o+k*T.size,cs,rfl,hR,?_⟩
 have e2:o+(k+i)*T.size=o+k*T.size+i*T.size:=by rw [Nat.add_mul,Nat.add_assoc]
 rw [←e2];exact hA
theorem Sl.none' {α:Type} (T:Ty α) (c:CM) (a:Addr) {l:List α} (hl:l=[]):Sl T c (.slice (some a) 0 0) l:=by
 subst hl
 exact⟨some a,0,rfl,Nat.le_refl _,Nat.zero_le _,by simp,fun i x e=>by simp at e⟩
theorem cells2 {w:World} {B:Nat} {a b:Value} {t:TypeId} (h:w.heap[B]? =some (.cells #[a,b] t (0,0))):w.cell? ⟨B,0,none⟩=some a∧w.cell? ⟨B,1,none⟩=some b:=by
 refine⟨?_,?_⟩<;>simp [World.cell?,h]
def Rdr (w:World) (B:Nat) (c:CM) (s:RS):Prop:=∃a cap,w.heap[B]? =some (.cells #[.slice a s.1.length cap,.int .i64 s.2] 155 (0,0))∧Sl Ty.byte c (.slice a s.1.length cap) s.1
theorem Rdr.grow {w w':World} {B:Nat} {c:CM} {s:RS} (h:Rdr w B c s) (hg:Grow w w'):Rdr w' B c s:=by
 obtain⟨a,cap,h1,h2⟩:=h
 exact⟨a,cap,row_grow h1 hg,h2⟩
structure TellsG {α:Type} (P:Program) (T:Ty α) (val:List Value→Value) (w:World) (row:Option Nat) (F:FuncId) (caps:Array Value) (l:List α) (p:α→Bool):Prop where
 ent:∀args w,(callFunc F args).run P w=.ok (.enter F args) w
 say:∀(wx:World) (cs:List Value) (x:α),w.grownBy wx row→x∈l→T.R wx.cell? cs x→Calls P F (#[val cs]++caps) wx fun e w'=>e=.returned (.bool (p x))∧Grow wx w'
theorem TellsG.tells {α:Type} {P:Program} {T:Ty α} {val:List Value→Value} {w:World} {row:Option Nat} {F:FuncId} {caps:Array Value} {l:List α} {p:α→Bool} (h:TellsG P T val w row F caps l p):Tells P T val w F caps l p:=
 ⟨h.ent,fun wx cs x hg=>h.say wx cs x (grownBy_of_grow hg _)⟩
theorem filter_take_succ {α:Type} (q:α→Bool) {l:List α} {j:Nat} (h:j<l.length):(l.take (j+1)).filter q=(l.take j).filter q++if q l[j] then [l[j]] else []:=by
 rw [List.take_succ_eq_append_getElem h,List.filter_append]
 by_cases hq:q l[j]<;>simp [hq]
theorem filter_none {α:Type} {p:α→Bool} {l:List α} (h:l.findIdx? p=none):l.filter (fun x=>!p x)=l:=by
 rw [List.findIdx?_eq_none_iff] at h
 rw [List.filter_eq_self]
 intro x hx;simp [h x hx]
set_option maxRecDepth 100000 in
set_option maxHeartbeats 1000000 in
theorem deleteFunc_pt {w:World} {base:Nat} {v:Value} {l:List Pt} {F:FuncId} {caps:Array Value} {p:Pt→Bool} (ho:OwnT Ty.pt w base 32 v l) (hp:TellsG Try.prog Ty.pt aggOf w v.ownBlock F caps l p):
  Calls Try.prog 142 #[v,.func (.func F) #[] caps] w fun e w'=>∃v',e=.returned v'∧OwnT Ty.pt w' base 32 v' (l.filter fun x=>!p x)∧w.grownBy w' v.ownBlock∧v'.ownBlock=v.ownBlock:=by
 have hIdx:=indexFunc_pt w (ho.sl (by decide)) hp.tells
 cases hfi:l.findIdx? p with
 |none=>
  have hx:idxOf p l= -1:=by rw [idxOf,hfi]
  have HF:=η (filter_none hfi)
  rw [hx] at hIdx
  have HI:=η hIdx
  have HO:=η ho
  clear hIdx hx hfi ho hp
  go_enter Try.func142,Try.ntmps142
  go_wp2_with (go_at_call 161;refine HI.o.mono ?_;rintro e w1 ⟨rfl,hb1⟩)
  go_ret
  exact⟨_,rfl,by rw [HF.o];exact HO.o.grow hb1,grownBy_of_grow hb1 _,rfl⟩
 |some k=>
  have hx:idxOf p l=k:=by rw [idxOf,hfi]
  rw [hx] at hIdx
  rw [List.findIdx?_eq_some_iff_getElem] at hfi
  obtain⟨hk,hpk,hbefore⟩:=hfi
  obtain⟨css,hown,hcl0,hR⟩:=ho
  have hcl:=css_len hcl0 hR
  obtain⟨hl,⟨rfl,hn⟩|⟨g,cap,cur,rfl,hb,hg,hnc,hcm,hcs,htake⟩⟩:=id hown
  ·omega
  have hbl:(Value.slice (some (⟨g,0,none⟩:Addr)) l.length cap).ownBlock=some g:=rfl
  rw [hbl] at hR hp ⊢
  have hf0:(l.take (k+1)).filter (fun x=>!p x)=l.take k:=by
   rw [filter_take_succ _ hk,hpk]
   simp only [Bool.not_true,Bool.false_eq_true,if_false,List.append_nil]
   rw [List.filter_eq_self]
   intro x hx
   obtain⟨j,hj,rfl⟩:=List.mem_iff_getElem.1 hx
   have:=hbefore j (by simp at hj;omega)
   simpa using this
  have hkne:((k:Int)== -1)=false:=by rw [beq_eq_false_iff_ne];omega
  have hcm':cap≤9223372036854775807:=by unfold maxLen at hcm;omega
  have HI:=η hIdx
  have HO:=η hown
  have HR:=η hR
  have HP:=η hp.say
  have eg:=hp.ent
  have HF:=η hf0
  have HC:=η hcl
  have HC0:=η hcl0
  clear hIdx hown hR hp hf0 hcl hcl0 hl hg htake hcs hb hcm hbefore hpk hx
  go_enter Try.func142,Try.ntmps142
  go_wp2_with (go_at_call 161;refine HI.o.mono ?_;rintro e w1 ⟨rfl,hb1⟩)
  go_loopw [5,6,7] (fun si sj _ wr=>∃(i j:Nat) (css':List (List Value)),i<j∧j≤l.length∧si=.int .i64 i∧sj=.int .i64 j∧w.grownBy wr (some g)∧css'.length=l.length∧(∀cs∈css',cs.length=3)∧
    wr.ownsRow base 32 3 (.slice (some ⟨g,0,none⟩) l.length cap) l.length css'.flatten∧css'.drop j=css.drop j∧((l.take j).filter fun x=>!p x).length=i∧
    ∀(a:Nat) (cs:List Value) (x:Pt),a<i→css'[a]? =some cs→((l.take j).filter fun x=>!p x)[a]? =some x→Ty.pt.R (frag w (some g)) cs x) (fun _ sj _ _=>l.length - (intOf sj).toNat)
  case atStart=>
   refine⟨k,k+1,css,by omega,by omega,rfl,by go_num,grownBy_of_grow hb1 _,HC0.o,HC.o,HO.o.kept (grownBy_of_grow hb1 none) (by right;simp [Value.ownBlock]),rfl,by rw [HF.o];simp;omega,fun a cs x ha h1 h2=>?_⟩
   rw [HF.o,List.getElem?_take,if_pos ha] at h2
   exact HR.o a cs x h1 h2
  case round=>
   obtain⟨i,j,css',hij,hj',rfl,rfl,hgr,hl',hcs',hown',hdrop,hfl,hRi⟩:=hrel
   have HOWN:=η hown'
   have HCS:=η hcs'
   have HD:=η hdrop
   have HFL:=η hfl
   have HRI:=η hRi
   have HL':=η hl'
   have HGR:=η hgr
   clear hown' hcs' hdrop hfl hRi hl' hgr hb1
   by_cases hlt:j<l.length
   ·have hjc:css[j]? =some css[j]!:=by rw [List.getElem?_eq_getElem (by rw [HC0.o];exact hlt),getElem!_pos css j (by rw [HC0.o];exact hlt)]
    obtain⟨hcsj,hRR⟩:=HR.o j _ l[j] hjc (List.getElem?_eq_getElem hlt)
    have hjc':css'[j]? =some css[j]!:=by
     have:(css'.drop j)[0]? =(css.drop j)[0]?:=by rw [HD.o]
     rw [List.getElem?_drop,List.getElem?_drop,Nat.add_zero,hjc] at this
     exact this
    rw [hcsj] at hjc hjc'
    have hcj:∀(t:Nat) (u:Value),(l[j].cells)[t]? =some u→t<3→wr.cell? ⟨g,j*3+t,none⟩=some u:=by
     intro t u hu ht
     rw [HOWN.o.cellAt _ (by omega),flatten_at (size:=3) (by decide) css' HCS.o,show(j*3+t)/3=j by omega,show(j*3+t) % 3=t by omega,hjc']
     exact hu
    have hci:∀(t:Nat),t<3→∃u,wr.cell? ⟨g,i*3+t,none⟩=some u:=by
     intro t ht
     exact⟨_,by rw [HOWN.o.cellAt _ (by omega)];exact List.getElem?_eq_getElem (by rw [HOWN.o.1];omega)⟩
    have hfz:∀o,wr.frozen? ⟨g,o,none⟩=false:=HOWN.o.frozenAt
    have hgl:g<wr.heap.size:=(HOWN.o.lt g rfl).2
    have c0:wr.cell? ⟨g,j*3,none⟩=some (.int .i64 l[j].h):=hcj 0 _ rfl (by decide)
    have c1:wr.cell? ⟨g,j*3+1,none⟩=some (.int .i64 l[j].k):=hcj 1 _ rfl (by decide)
    have c2:wr.cell? ⟨g,j*3+2,none⟩=some (.int .i64 l[j].n):=hcj 2 _ rfl (by decide)
    obtain⟨u0,hu0⟩:∃u,wr.cell? ⟨g,i*3,none⟩=some u:=hci 0 (by decide)
    obtain⟨u1,hu1⟩:∃u,wr.cell? ⟨g,i*3+1,none⟩=some u:=hci 1 (by decide)
    obtain⟨u2,hu2⟩:∃u,wr.cell? ⟨g,i*3+2,none⟩=some u:=hci 2 (by decide)
    have hRw:Ty.pt.R (frag w (some g)) l[j].cells l[j]:=⟨rfl,hRR⟩
    have hsay:=fun(W:World) (hW:Grow wr W)=>HP.o W _ l[j] (grownBy_trans HGR.o (grownBy_of_grow hW _)) (List.getElem_mem _) (Ty.pt.mono (Sub.trans (frag_grown (grownBy_trans HGR.o (grownBy_of_grow hW _))) (frag_sub _ _)) hRw)
    have hstep:=filter_take_succ (fun x=>!p x) hlt
    have HS:=η hsay
    have HST:=η hstep
    have HRW:=η hRw
    clear hsay hstep hcj hci hRw hRR hjc hjc' hcsj
    simp only [Pt.cells,aggOf] at HS
    simp only [Pt.cells] at HRW
    cases hq:p l[j]
    ·rw [hq] at HS HST
     generalize l[j]=q at*
     go_wp2_with (go_at_fn F;refine(HS.o _ ((Grow.refl wr).alloc _)).mono ?_;rintro e w1 ⟨rfl,hb1⟩;have e0:=hb1.sub ⟨wr.heap.size,0,none⟩ _ (World.cell?_alloc_new wr _ _ 0);have e1:=hb1.sub ⟨wr.heap.size,1,none⟩ _ (World.cell?_alloc_new wr _ _ 1);have e2:=hb1.sub ⟨wr.heap.size,2,none⟩ _ (World.cell?_alloc_new wr _ _ 2);simp at e0 e1 e2;have d0:=(((Grow.refl wr).alloc _).trans hb1).sub _ _ hu0;have d1:=(((Grow.refl wr).alloc _).trans hb1).sub _ _ hu1;have d2:=(((Grow.refl wr).alloc _).trans hb1).sub _ _ hu2;have df:∀o,w1.frozen? ⟨g,o,none⟩=false:=fun o=>((((Grow.refl wr).alloc _).trans hb1).frozen (p:=⟨g,o,none⟩) hgl).trans (hfz o);have dz:=hb1.size;have HB1:=η hb1;clear hb1)
     obtain⟨hset,hsg⟩:=owns_set (cs:=[.int .i64 q.h,.int .i64 q.k,.int .i64 q.n]) (i:=i) HCS.o (HOWN.o.kept (grownBy_of_grow (((Grow.refl wr).alloc _).trans HB1.o) none) (by right;simp [Value.ownBlock])) (by rw [HL'.o];omega) rfl
     have HSET:=η hset
     have HSG:=η hsg
     clear hset hsg
     go_roundw
     case rel=>
      refine⟨i+1,j+1,css'.set i [.int .i64 q.h,.int .i64 q.k,.int .i64 q.n],by omega,by omega,by go_num,by go_num,grownBy_trans (grownBy_trans HGR.o (grownBy_of_grow (((Grow.refl wr).alloc _).trans HB1.o) _)) HSG.o,by simpa using HL'.o,?_,HSET.o,?_,?_,?_⟩
      ·intro cs hc
       rcases List.mem_or_eq_of_mem_set hc with h|rfl
       ·exact HCS.o cs h
       ·rfl
      ·rw [List.drop_set_of_lt (by omega)]
       have:(css'.drop j).drop 1=(css.drop j).drop 1:=by rw [HD.o]
       simpa [List.drop_drop] using this
      ·rw [HST.o];simp [HFL.o]
      ·intro a cs x ha h1 h2
       rw [HST.o] at h2
       simp only [Bool.not_false,if_true] at h2
       by_cases hai:a<i
       ·rw [List.getElem?_set_ne (by omega)] at h1
        rw [List.getElem?_append_left (by rw [HFL.o];exact hai)] at h2
        exact HRI.o a cs x hai h1 h2
       ·obtain rfl:a=i:=by omega
        rw [List.getElem?_append_right (by rw [HFL.o];omega),HFL.o,Nat.sub_self] at h2
        rw [List.getElem?_set_self (by rw [HL'.o];omega)] at h1
        obtain rfl:=Option.some.inj h1
        obtain rfl:=Option.some.inj h2
        exact HRW.o
     case measure=>simp [intOf];omega
    ·rw [hq] at HS HST
     generalize l[j]=q at*
     go_wp2_with (go_at_fn F;refine(HS.o _ ((Grow.refl wr).alloc _)).mono ?_;rintro e w1 ⟨rfl,hb1⟩)
     have HB1:=η hb1
     clear hb1
     go_roundw
     case rel=>
      refine⟨i,j+1,css',by omega,by omega,rfl,by go_num,grownBy_trans HGR.o (grownBy_of_grow (((Grow.refl wr).alloc _).trans HB1.o) _),HL'.o,HCS.o,HOWN.o.kept (grownBy_of_grow (((Grow.refl wr).alloc _).trans HB1.o) none) (by right;simp [Value.ownBlock]),?_,?_,?_⟩
      ·have:(css'.drop j).drop 1=(css.drop j).drop 1:=by rw [HD.o]
       simpa [List.drop_drop] using this
      ·rw [HST.o];simp [HFL.o]
      ·intro a cs x ha h1 h2
       rw [HST.o] at h2
       simp only [Bool.not_true,Bool.false_eq_true,if_false,List.append_nil] at h2
       exact HRI.o a cs x ha h1 h2
     case measure=>simp [intOf];omega
   ·obtain rfl:j=l.length:=by omega
    have hic:i≤cap:=by omega
    obtain⟨w2,hcl,HO2,HG2⟩:=clear_run ei_pt 0 HOWN.o i (l.length - i) (cap - i) (some ⟨g,i*3,none⟩) (by omega) (fun _=>rfl) (by omega)
    have HCL:=η hcl
    have HO2':=η HO2
    have HG2':=η HG2
    clear hcl HO2 HG2 eg
    have hil:i<cap:=by omega
    have hil2:i≤l.length:=by omega
    go_wp2_with fail
    rw [HCL.o]
    go_wp2
    go_ret
    refine⟨_,rfl,?_,grownBy_trans HGR.o HG2'.o,rfl⟩
    have hfin:(l.filter fun x=>!p x).length=i:=by have:=HFL.o;rw [List.take_of_length_le (Nat.le_refl _)] at this;exact this
    refine⟨css'.take i,?_,by rw [List.length_take,HL'.o,hfin];omega,fun a cs x h1 h2=>?_⟩
    ·have h:=HO2'.o
     rw [flatten_take css' i HCS.o] at h
     rw [hfin];exact h
    ·rw [List.getElem?_take] at h1
     split at h1
     ·rename_i hai
      have h3:=HRI.o a cs x hai h1 (by rw [List.take_of_length_le (Nat.le_refl _)];exact h2)
      exact Ty.pt.mono (frag_grown (grownBy_trans HGR.o HG2'.o)) h3
     ·cases h1
theorem OwnT.pts {w:World} {base e:Nat} {v:Value} {l:List Pt} (c:CM) (h:OwnT Ty.pt w base e v l):OwnC Ty.pt c w base e v l:=by
 obtain⟨css,h1,h2,h3⟩:=h
 exact⟨css,h1,h2,fun i cs x a b=>h3 i cs x a b⟩
theorem of_lit {B:Nat} {n:Int} (wx:World) (cs:List Value) (x:Pt) (hB:B<wx.heap.size) (hc:wx.cell? ⟨B,0,none⟩=some (.int .i64 n)) (hR:Ty.pt.R wx.cell? cs x):
  Calls Try.prog 143 #[.agg cs.toArray,.pointer (some ⟨B,0,none⟩)] wx fun e w'=>e=.returned (.bool (x.h !=n))∧Grow wx w':=by
 obtain⟨rfl,-⟩:=hR
 obtain⟨ph,pk,pn⟩:=x
 unfold Pt.cells
 simp only
 go_enter Try.func143,Try.ntmps143
 go_wp2
 go_ret
 exact⟨rfl,grA⟩
set_option maxHeartbeats 400000 in
theorem part_of {v:Value} {l:List Pt} {n:Int} (w:World) (hv:Pts w.cell? v l) (hm:l.length*24≤140737488355328):
  Calls Try.prog 85 #[v,.int .i64 n] w fun e w'=>∃v',e=.returned v'∧OwnC Ty.pt (fun _=>none) w' w.heap.size 32 v' (ofL l n)∧Grow w w':=by
 have HOK:=η (Pts.ok hv)
 have HCL:=η (clone_pt (w.alloc (.cells #[.int .i64 n] 3)) (hv.mono ((Grow.refl w).alloc _).sub) hm)
 have HC0:Hid ((w.alloc (.cells #[.int .i64 n] 3)).cell? ⟨w.heap.size,0,none⟩=some (.int .i64 n)):=η (by rw [World.cell?_alloc_new];rfl)
 clear hv
 go_enter Try.func85,Try.ntmps85
 go_wp2_with fail
 refine HCL.o.mono ?_
 rintro e w1 ⟨v1,rfl,hown,hb1⟩
 have hT:OwnT Ty.pt w1 (w.alloc (.cells #[.int .i64 n] 3)).heap.size 32 v1 l:=OwnT.of_flat (T:=Ty.pt) (f:=Pt.cells) hown fun c x hx=>⟨rfl,HOK.o x hx⟩
 have hT0:OwnC Ty.pt (fun _=>none) w1 (w.alloc (.cells #[.int .i64 n] 3)).heap.size 32 v1 l:=hT.pts _
 have hlt:=hT0.lt
 have hc1:w1.cell? ⟨w.heap.size,0,none⟩=some (.int .i64 n):=hb1.sub _ _ HC0.o
 have hz1:w.heap.size<w1.heap.size:=by have:=hb1.size;simp at this;omega
 have hne:∀k,v1.ownBlock=some k→w.heap.size≠k:=fun k hk=>by have:=(hlt k hk).1;simp at this;omega
 have HD:=η (deleteFunc_pt hT (F:=143) (caps:=#[.pointer (some ⟨w.heap.size,0,none⟩)]) (p:=fun x=>x.h !=n) ⟨fun args w=>by kernel_rfl,fun wx cs x hg _ hR=>by
  refine of_lit wx cs x (Nat.lt_of_lt_of_le hz1 hg.size) ?_ hR
  rw [World.cell?_of_block (hg.block w.heap.size hz1 (fun e=>hne _ e.symm rfl))]
  exact hc1⟩)
 obtain⟨a1,c1,rfl⟩:=hT0.form
 have HB1:=η (((Grow.refl w).alloc (.cells #[.int .i64 n] 3)).trans hb1)
 have HLT:=η hlt
 clear hT hT0 hown hb1 hlt hc1 hz1 hne
 go_wp2_with fail
 refine HD.o.mono ?_
 rintro e w2 ⟨v2,rfl,hT2,hg2,-⟩
 have HX:Hid (OwnC Ty.pt (fun _=>none) w2 w.heap.size 32 v2 (ofL l n)):=η (by
  have h:=(hT2.pts (fun _=>none)).base (b':=w.heap.size) (by simp)
  have e:(l.filter fun x=>!(x.h !=n))=ofL l n:=by unfold ofL;congr 1;funext x;show(!(!(x.h==n)))=_;simp
  rw [←e];exact h)
 have HG:Hid (Grow w w2):=η (HB1.o.grown hg2 fun k hk=>by have:=(HLT.o k hk).1;simp at this;omega)
 clear hT2 hg2
 go_wp2
 go_ret
 exact⟨_,rfl,HX.o,HG.o⟩
theorem Sl.take' {α:Type} {T:Ty α} {c:CM} {a:Option Addr} {n cap:Nat} {l:List α} (h:Sl T c (.slice a n cap) l) (m:Nat) (hm:m≤n):Sl T c (.slice a m cap) (l.take m):=by
 obtain⟨a',cap',he,h1,h2,h3,hel⟩:=h
 simp only [Value.slice.injEq] at he
 obtain⟨rfl,rfl,rfl⟩:=he
 have hl:(l.take m).length=m:=by simp;omega
 refine⟨a,cap,by rw [hl],by rw [hl];omega,h2,h3,fun i x e=>?_⟩
 have hi:=(List.getElem?_eq_some_iff.1 e).1
 rw [List.getElem?_take_of_lt (by omega)] at e
 exact hel i x e
theorem wanted_yes {o:Oper} {y:Nat→Option Bool} {X E:Prop} {inst:Decidable (Region.wanted o y=true)} (hgd:Region.wanted o y=true) (h:X):@ite Prop (Region.wanted o y=true) inst X E:=by
 rw [if_pos hgd]
 exact h
theorem cell1 {w:World} {B:Nat} {a:Value} {t:TypeId} (h:w.heap[B]? =some (.cells #[a] t (0,0))):w.cell? ⟨B,0,none⟩=some a:=by simp [World.cell?,h]
theorem info_ms:(Try.prog.info? 39).map (·.size)=some 4:=by kernel_rfl
theorem of_ms0 (c:CM):Of Ty.ms c (.agg #[.int .i64 0,.int .i64 0,.int .i64 0,.slice none 0 0]) ms0:=⟨_,rfl,_,rfl,zero_ok,zero_ok,zero_ok,Sl.nil _ _⟩
theorem row_set4_3' {w:World} {B:Nat} {a b c d:Value} {t:TypeId} (h:w.heap[B]? =some (.cells #[a,b,c,d] t (0,0))) (u:Value):(w.setCell ⟨B,3,none⟩ u).heap[B]? =some (.cells #[a,b,c,u] t (0,0)):=by
 simp only [World.setCell,Array.getElem?_modify,h];simp
structure RSt (w wc:World) (B6 B7:Nat) (t:RS) (k d h:Int) (vp:Value) (ps:List Pt):Prop where
 res:wc.heap[w.heap.size]? =some (.cells #[.int .i64 0,.int .i64 0,.int .i64 0,.slice none 0 0] 39 (0,0))
 msg:wc.heap[B7]? =some (.cells #[.int .i64 k,.int .i64 d,.int .i64 h,vp] 39 (0,0))
 rdr:Rdr wc B6 w.cell? t
 own:wc.ownsRow (w.heap.size+1) 32 3 vp ps.length (ps.flatMap Pt.cells)
 grow:Grow w wc
 lo6:w.heap.size<B6
 lo7:w.heap.size<B7
 ne:B6≠B7
 dis:∀q,vp.ownBlock=some q→q≠B6∧q≠B7
theorem RSt.next {w wc w':World} {B6 B7:Nat} {t t':RS} {k d h:Int} {vp:Value} {ps:List Pt} (r:RSt w wc B6 B7 t k d h vp ps) (hr:Rdr w' B6 w.cell? t') (hg:wc.grownBy w' (some B6)):RSt w w' B6 B7 t' k d h vp ps where
 res:=row_by r.res hg (by have:=r.lo6;simp;omega)
 msg:=row_by r.msg hg (by have:=r.ne;simp;omega)
 rdr:=hr
 own:=r.own.kept hg (by
  cases e:vp.ownBlock with
  |none=>exact .inl rfl
  |some q=>exact .inr (by have:=(r.dis q e).1;simp;omega))
 grow:=r.grow.grown hg (fun q hq=>by have:=r.lo6;simp at hq;omega)
 lo6:=r.lo6
 lo7:=r.lo7
 ne:=r.ne
 dis:=r.dis
theorem RSt.part {w wc w1 w':World} {B6 B7:Nat} {t:RS} {k d h:Int} {vp:Value} {ps ps':List Pt} {a':Option Addr} {n c':Nat} (r:RSt w wc B6 B7 t k d h vp ps) (hG:Grow wc w1) (ho:w'.ownsRow (w.heap.size+1) 32 3 (.slice a' n c') ps'.length (ps'.flatMap Pt.cells)) (hg:w1.grownBy w' vp.ownBlock)
  (hb:(Value.slice a' n c').ownBlock=vp.ownBlock∨∃g,(Value.slice a' n c').ownBlock=some g∧w1.heap.size≤g):RSt w (w'.setCell ⟨B7,3,none⟩ (.slice a' n c')) B6 B7 t k d h (.slice a' n c') ps':=by
 have hlt:∀{B:Nat} {o:Obj},wc.heap[B]? =some o→B<wc.heap.size:=fun h=>(γ h)
 obtain⟨ra,rc,h1,h2⟩:=r.rdr
 have z6:=hlt h1
 have z7:=hlt r.msg
 have zg:=hG.size
 have hne6:some B6≠vp.ownBlock:=fun e=>(r.dis B6 e.symm).1 rfl
 have hne7:some B7≠vp.ownBlock:=fun e=>(r.dis B7 e.symm).2 rfl
 have hneR:some w.heap.size≠vp.ownBlock:=fun e=>by have:=(r.own.lt _ e.symm).1;omega
 have hlo7:=r.lo7
 have hne:=r.ne
 have hB:∀q,q≠B7→(w'.setCell ⟨B7,3,none⟩ (.slice a' n c')).heap[q]? =w'.heap[q]?:=fun q hq=>Below.heap_setCell _ _ _ _ (fun e=>hq e)
 have hdis:∀q,(Value.slice a' n c').ownBlock=some q→q≠B6∧q≠B7:=fun q hq=>by
  rcases hb with e|⟨g,e,hge⟩
  ·exact r.dis q (e.symm.trans hq)
  ·rw [e] at hq
   obtain rfl:=Option.some.inj hq
   constructor<;>omega
 refine⟨?_,?_,⟨ra,rc,?_,h2⟩,?_,?_,r.lo6,r.lo7,r.ne,hdis⟩
 ·rw [hB _ (by omega)];exact row_by (row_grow r.res hG) hg hneR
 ·exact row_set4_3' (row_by (row_grow r.msg hG) hg hne7) _
 ·rw [hB _ hne];exact row_by (row_grow h1 hG) hg hne6
 ·exact owns_block ho fun q hq=>hB q (hdis q hq).2
 ·exact((r.grow.trans hG).grown hg (fun q hq=>by have:=(r.own.lt q hq).1;omega)).setCell (by simp;omega) _
theorem sum_test {b:List UInt8} {e x y s:Nat} (hle:b.length=e+2) (hx:b[e]'(by omega)=UInt8.ofNat x) (hy:b[e+1]'(by omega)=UInt8.ofNat y) (hx2:x<256) (hy2:y<256) (hs:sumB (b.take e)=s):sumOk b=decide (s=256*x+y):=by
 have e1:b.getD e 0=UInt8.ofNat x:=by rw [List.getD_eq_getElem?_getD,List.getElem?_eq_getElem (by omega),hx];rfl
 have e2:b.getD (e+1) 0=UInt8.ofNat y:=by rw [List.getD_eq_getElem?_getD,List.getElem?_eq_getElem (by omega),hy];rfl
 unfold sumOk
 rw [hle,show e+2 - 2=e by omega,show e+2 - 1=e+1 by omega,e1,e2,hs,ofNat_small hx2,ofNat_small hy2]
set_option maxRecDepth 100000 in
set_option maxHeartbeats 4000000 in
theorem ref_sameLog {v v':Value} {l l':List Rc} (w:World) (hv:Sl Ty.rc w.cell? v l) (hv':Sl Ty.rc w.cell? v' l'):
  Calls Try.prog 39 #[v,v'] w fun e w'=>e=.returned (.bool (decide (l=l')))∧Grow w w':=by
 obtain⟨a,cap,rfl,h1,h2,-,hel⟩:=hv
 obtain⟨a',cap',rfl,h1',h2',-,hel'⟩:=hv'
 unfold maxLen at h2 h2'
 by_cases hlen:l.length=l'.length
 ·have hb:((l.length:Int) !=l'.length)=false:=by simp [hlen]
  have HL:=η hlen
  clear hlen
  go_enter Try.func39,Try.ntmps39
  go_wp2
  go_loopw [4,5,13] (fun _ _ i wr=>∃k:Nat,k≤l.length∧i=.int .i64 k∧Grow w wr∧∀j,j<k→l[j]? =l'[j]?) (fun _ _ i _=>l.length - (intOf i).toNat)
  case atStart=>exact⟨0,by omega,rfl,grA,fun j h=>by omega⟩
  case round=>
   obtain⟨k,hk',rfl,hb,hE⟩:=hrel
   by_cases hlt:k<l.length
   ·have hlt':k<l'.length:=by have:=HL.o;omega
    have H1:=η (same_next hlt hlt' hE)
    have H2:Hid (¬l[k]=l'[k]→decide (l=l')=false):=fun h=>same_not hlt hlt' h
    clear hE
    obtain⟨b,o,vp,rfl,c0,c1,c2,-,-,hp⟩:=Rcs.at_ hel k hlt
    obtain⟨b',o',vp',rfl,c0',c1',c2',-,-,hp'⟩:=Rcs.at_ hel' k hlt'
    obtain⟨ap,cp,rfl,-⟩:=id hp
    obtain⟨ap',cp',rfl,-⟩:=id hp'
    have HSP:=η (fun(W:World) (hW:Grow wr W)=>ref_sameParts W (hp.mono (hb.trans hW).sub) (hp'.mono (hb.trans hW).sub))
    replace c0:=hb.sub _ _ c0
    replace c0':=hb.sub _ _ c0'
    replace c1:=hb.sub _ _ c1
    replace c1':=hb.sub _ _ c1'
    replace c2:=hb.sub _ _ c2
    replace c2':=hb.sub _ _ c2'
    clear hel hel' hp hp'
    generalize l[k]=p at*
    generalize l'[k]=p' at*
    have HS:Hid (∀W,Grow wr W→W.cell? ⟨b,o+k*3,none⟩=some (.int .i64 p.kind)∧W.cell? ⟨b,o+k*3+1,none⟩=some (.int .i64 p.deed)∧W.cell? ⟨b,o+k*3+2,none⟩=some (.slice ap p.parts.length cp)∧W.cell? ⟨b',o'+k*3,none⟩=some (.int .i64 p'.kind)∧W.cell? ⟨b',o'+k*3+1,none⟩=some (.int .i64 p'.deed)∧W.cell? ⟨b',o'+k*3+2,none⟩=some (.slice ap' p'.parts.length cp')):=fun W hW=>⟨hW.sub _ _ c0,hW.sub _ _ c1,hW.sub _ _ c2,hW.sub _ _ c0',hW.sub _ _ c1',hW.sub _ _ c2'⟩
    by_cases hk:p.kind=p'.kind
    ·have hnk:(p.kind !=p'.kind)=false:=by simp [hk]
     by_cases hd:p.deed=p'.deed
     ·have hne:(p.deed !=p'.deed)=false:=by simp [hd]
      by_cases hpp:p.parts=p'.parts
      ·have hpe:p=p':=by cases p;cases p';simp_all
       have H3:=η (H1.o hpe)
       have hdec:=decide_eq_true hpp
       rw [hdec] at HSP
       clear hk hd hpp hpe H1 H2 hdec
       go_wp2
       go_region_held3 (fun w'=>w'.cell? ⟨b,o+k*3,none⟩=some (.int .i64 p.kind)∧w'.cell? ⟨b,o+k*3+1,none⟩=some (.int .i64 p.deed)∧w'.cell? ⟨b,o+k*3+2,none⟩=some (.slice ap p.parts.length cp)∧w'.cell? ⟨b',o'+k*3,none⟩=some (.int .i64 p'.kind)∧w'.cell? ⟨b',o'+k*3+1,none⟩=some (.int .i64 p'.deed)∧w'.cell? ⟨b',o'+k*3+2,none⟩=some (.slice ap' p'.parts.length cp')) (first|assumption|exact HS.o _ grB) (first|(go_at_call 84;refine(HSP.o _ grB).mono ?_;rintro e w4 ⟨rfl,hb4⟩))
       go_wp2
       go_roundw
       case rel=>exact⟨k+1,by omega,by go_num,hb.trans grB,H3.o⟩
       case measure=>simp [intOf];omega
      ·have H3:=η (H2.o (fun e=>hpp (by rw [e])))
       have hdec:=decide_eq_false hpp
       rw [hdec] at HSP
       clear hk hd hpp H1 H2 hdec
       go_wp2
       go_region_held3 (fun w'=>w'.cell? ⟨b,o+k*3,none⟩=some (.int .i64 p.kind)∧w'.cell? ⟨b,o+k*3+1,none⟩=some (.int .i64 p.deed)∧w'.cell? ⟨b,o+k*3+2,none⟩=some (.slice ap p.parts.length cp)∧w'.cell? ⟨b',o'+k*3,none⟩=some (.int .i64 p'.kind)∧w'.cell? ⟨b',o'+k*3+1,none⟩=some (.int .i64 p'.deed)∧w'.cell? ⟨b',o'+k*3+2,none⟩=some (.slice ap' p'.parts.length cp')) (first|assumption|exact HS.o _ grB) (first|(go_at_call 84;refine(HSP.o _ grB).mono ?_;rintro e w4 ⟨rfl,hb4⟩))
       go_wp2
       go_ret
       exact⟨ret_bool H3.o.symm,hb.trans grB⟩
     ·have H3:=η (H2.o (fun e=>hd (by rw [e])))
      have hne:(p.deed !=p'.deed)=true:=by simp [hd]
      clear hk hd H1 H2
      go_wp2_with (go_quiet (fail))
      go_ret
      exact⟨ret_bool H3.o.symm,grA⟩
    ·have H3:=η (H2.o (fun e=>hk (by rw [e])))
     have hnk:(p.kind !=p'.kind)=true:=by simp [hk]
     clear hk H1 H2
     go_wp2_with (go_quiet (fail))
     go_ret
     exact⟨ret_bool H3.o.symm,grA⟩
   ·have HE:=η hE
    clear hel hel' hE
    go_wp2
    go_ret
    refine⟨ret_bool ?_,hb⟩
    rw [eq_comm,decide_eq_true_eq]
    exact same_all HL.o (by omega) HE.o
 ·have hb:((l.length:Int) !=l'.length)=true:=by simp;omega
  have HE:Hid (decide (l=l')=false):=by show _=_;rw [decide_eq_false_iff_not];rintro rfl;exact hlen rfl
  clear hlen hel hel'
  go_enter Try.func39,Try.ntmps39
  go_wp2
  go_ret
  exact⟨ret_bool HE.o.symm,grA⟩
theorem eql_sm (s t:Sm) (w:World):(binOp .eql 25 (.agg #[.int .i64 s.a,.int .i64 s.b,.int .i64 s.c,.int .i64 s.d]) (.agg #[.int .i64 t.a,.int .i64 t.b,.int .i64 t.c,.int .i64 t.d])).run Try.prog w=.ok (.bool (decide (s=t))) w:=by
 have u3:=Try.underlying3
 have a3:=Try.isAgg3
 have z3:=Try.sizeOf3
 obtain⟨i,z,hi,_⟩:=ei_int.hi
 have hc:Try.prog.cellsOf 3=1:=by kernel_rfl
 rw [run_eql_struct,show(10000:Nat)=9999+1 from rfl,run_equalIn_array w 9999 _ _ Try.underlying25 hi,hc,show List.range 4=[0,1,2,3] from rfl]
 clear hi
 simp only [Op.eqItems]
 obtain⟨a,b,c,d⟩:=s
 obtain⟨a',b',c',d'⟩:=t
 go_simp
 by_cases h1:a=a'<;>by_cases h2:b=b'<;>by_cases h3:c=c'<;>by_cases h4:d=d'<;>simp [h1,h2,h3,h4]
theorem guard_sm:Try.prog.eqGuardType Try.prog.depth 25=false:=by kernel_rfl
theorem run_store_el {α:Type} {T:Ty α} {P:Program} {ty:TypeId} {c:CM} {w:World} {base e g cap i:Nat} {l:List α} {cells:Array Value} {x:α}
  (hown:OwnC T c w base e (.slice (some ⟨g,0,none⟩) l.length cap) l) (hi:i<l.length) (hsz:(P.info? ty).map (·.size)=some cells.size) (hR:T.R c cells.toList x) (h1:cells.toList.all (·.oneCell')=true):
  ∃w',(storeVar ty ⟨g,i*T.size,none⟩ (.agg cells)).run P w=.ok () w'∧OwnC T c w' base e (.slice (some ⟨g,0,none⟩) l.length cap) (l.set i x)∧w.grownBy w' (some g):=by
 obtain⟨css,⟨hl,⟨h',_⟩|⟨g',cap',cur,h',hb,hg,hnc,hcm,hcs,htake⟩⟩,h2,h3⟩:=hown
 ·simp at h'
 simp only [Value.slice.injEq,Option.some.injEq,Addr.mk.injEq,and_true,true_and] at h'
 obtain⟨rfl,rfl⟩:=h'
 have hcl:=css_len h2 h3
 have hlen:cells.toList.length=T.size:=T.len hR
 have hle:i*T.size+T.size≤l.length*T.size:=by
  have:=Nat.mul_le_mul_right T.size (show i+1≤l.length by omega)
  rw [Nat.add_mul] at this;omega
 have hle2:l.length*T.size≤cap*T.size:=Nat.mul_le_mul_right _ hnc
 have hr:=run_storeCells_at (P:=P) g (i*T.size) e cells.toList 0 cur w hg (by rw [hlen];omega) (fun v hv=>by simpa using List.all_eq_true.1 h1 v hv)
 have e9:(l.set i x).length=l.length:=List.length_set
 have e1:css.flatten.length=l.length*T.size:=by rw [flatten_len css hcl,h2]
 have e2:cur.toList.take (i*T.size)=css.flatten.take (i*T.size):=by rw [←htake,List.take_take,Nat.min_eq_left (by omega)]
 have e3:(cur.toList.drop (i*T.size+T.size)).take (l.length*T.size - (i*T.size+T.size))=css.flatten.drop (i*T.size+T.size):=by
  rw [←htake,List.drop_take]
 have e4:(css.flatten.take (i*T.size)).length=i*T.size:=by rw [List.length_take,e1,Nat.min_eq_left (by omega)]
 have hown':(w.setRow g (cur.toList.take (i*T.size+0)++cells.toList++cur.toList.drop (i*T.size+0+cells.toList.length)).toArray).ownsRow base e T.size (.slice (some ⟨g,0,none⟩) l.length cap) l.length (css.set i cells.toList).flatten:=by
  refine⟨?_,.inr ⟨g,cap,_,rfl,hb,setRow_heap w g cur _ e _ hg,hnc,hcm,?_,?_⟩⟩
  ·rw [flatten_len _ (fun cs hc=>by rcases List.mem_or_eq_of_mem_set hc with h|h;exact hcl cs h;rw [h];exact hlen)]
   simp [h2]
  ·rw [List.size_toArray,List.length_append,List.length_append,List.length_take,List.length_drop,hlen,Array.length_toList,hcs];omega
  ·rw [hlen,Nat.add_zero,e2]
   simp only
   rw [List.take_append,List.take_of_length_le (by rw [List.length_append,e4,hlen];exact hle),List.length_append,e4,hlen,e3,flatten_take css i hcl,show i*T.size+T.size=(i+1)*T.size by rw [Nat.add_mul];omega,flatten_drop css (i+1) hcl,
    List.set_eq_take_append_cons_drop,if_pos (by omega)]
   simp
 refine⟨w.setRow g (cur.toList.take (i*T.size+0)++cells.toList++cur.toList.drop (i*T.size+0+cells.toList.length)).toArray,?_,⟨css.set i cells.toList,by rw [e9];exact hown',by simp [h2],fun j cs y ej ey=>?_⟩,⟨rfl,rfl,rfl,by simp [World.setRow],fun k hk hne=>?_⟩⟩
 ·cases hq:P.info? ty with
  |none=>simp [hq] at hsz
  |some q=>
   have hs:cells.size=q.size:=by simp [hq] at hsz;omega
   simp [storeVar,sizeOf,typeInfo,hq,Value.cells,hs] at hr ⊢
   exact hr
 ·by_cases hj:j=i
  ·subst hj
   rw [List.getElem?_set_self (by omega)] at ej ey
   obtain rfl:=Option.some.inj ej
   obtain rfl:=Option.some.inj ey
   exact hR
  ·rw [List.getElem?_set_ne (fun e=>hj e.symm)] at ej ey
   exact h3 j cs y ej ey
 ·simp only [World.setRow]
  rw [Array.getElem?_modify]
  rw [if_neg (fun e=>hne (by rw [e]))]
theorem wp_store_el {α:Type} {T:Ty α} {P:Program} {ty:TypeId} {c:CM} {w:World} {o:Oper} {a:Act} {K:Act→World→Prop} {Q:Exit→Act→World→Prop} (d s:Operand) (ho:o.op=.store ty d s)
  {base e g cap i p:Nat} {l:List α} {cells:Array Value} {x:α} (hd:a.eval d=.pointer (some ⟨g,p,none⟩)) (hs:a.eval s=.agg cells) (hp:p=i*T.size)
  (hown:OwnC T c w base e (.slice (some ⟨g,0,none⟩) l.length cap) l) (hi:i<l.length) (hsz:(P.info? ty).map (·.size)=some cells.size) (hR:T.R c cells.toList x) (h1:cells.toList.all (·.oneCell')=true)
  (h:∀w',OwnC T c w' base e (.slice (some ⟨g,0,none⟩) l.length cap) (l.set i x)→w.grownBy w' (some g)→K (a.put o.dst undef) w'):o.wp P a w K Q:=by
 subst hp
 obtain⟨w',hr,h2,h3⟩:=run_store_el (P:=P) (ty:=ty) hown hi hsz hR h1
 unfold Oper.wp execOp
 simp only [ho,hd,hs,Instr.storeAt,Instr.sureAddr,Sem.run_bind,Sem.run_pure,Result.andThen_ok,hr]
 exact h _ h2 h3
theorem wpList_store_el {α:Type} {T:Ty α} {P:Program} {ty:TypeId} {c:CM} {w:World} {ops:Array Oper} {rest:List Oper} {o:Oper} {a:Act} {Q:Exit→Act→World→Prop} (hgd:o.guard=none) (d s:Operand) (ho:o.op=.store ty d s)
  {base e g cap i p:Nat} {l:List α} {cells:Array Value} {x:α} (hd:a.eval d=.pointer (some ⟨g,p,none⟩)) (hs:a.eval s=.agg cells) (hp:p=i*T.size)
  (hown:OwnC T c w base e (.slice (some ⟨g,0,none⟩) l.length cap) l) (hi:i<l.length) (hsz:(P.info? ty).map (·.size)=some cells.size) (hR:T.R c cells.toList x) (h1:cells.toList.all (·.oneCell')=true)
  (h:∀w',OwnC T c w' base e (.slice (some ⟨g,0,none⟩) l.length cap) (l.set i x)→w.grownBy w' (some g)→wpList P ops Q rest (a.put o.dst undef) w'):wpList P ops Q (o::rest) a w:=
 wpList_plain hgd fun _ hK=>wp_store_el d s ho hd hs hp hown hi hsz hR h1 fun w' a b=>hK _ _ (h w' a b)
theorem info_sm:(Try.prog.info? 25).map (·.size)=some 4:=by kernel_rfl
theorem neq_sm (s t:Sm) (w:World):(binOp .neq 25 (.agg #[.int .i64 s.a,.int .i64 s.b,.int .i64 s.c,.int .i64 s.d]) (.agg #[.int .i64 t.a,.int .i64 t.b,.int .i64 t.c,.int .i64 t.d])).run Try.prog w=.ok (.bool (!decide (s=t))) w:=by
 have h:=eql_sm s t w
 rw [run_eql_struct] at h
 rw [run_neq_struct]
 cases hr:(Op.equalIn 10000 25 (.agg #[.int .i64 s.a,.int .i64 s.b,.int .i64 s.c,.int .i64 s.d]) (.agg #[.int .i64 t.a,.int .i64 t.b,.int .i64 t.c,.int .i64 t.d])).run Try.prog w with
 |ok b w'=>rw [hr] at h;simp only [Result.andThen_ok,Result.ok.injEq,Value.bool.injEq] at h ⊢;exact⟨by rw [h.1],h.2⟩
 |halt x w'=>rw [hr] at h;simp [Result.andThen] at h
theorem getD_at {S:List Sm} {n:Nat} (h:n<S.length):S.getD n ⟨0,0,0,0⟩=S[n]:=by
 rw [List.getD_eq_getElem?_getD,List.getElem?_eq_getElem h];rfl
set_option maxRecDepth 100000 in
set_option maxHeartbeats 4000000 in
theorem model_do {v vp:Value} {S:List Sm} {P:List Pt} (w:World) (hv:Sms w.cell? v S) (hp:Pts w.cell? vp P) (hw:wrongE P S.length=0) (h1:1≤S.length) (h3:S.length≤3):
  Calls Try.prog 92 #[v,vp] w fun e w'=>∃v',e=.returned (.tuple #[v',.int .i64 (doAllE S P).2])∧Sms w'.cell? v' (doAllE S P).1∧Grow w w'∧OwnC Ty.sm (fun _=>none) w' w.heap.size 25 v' (doAllE S P).1:=by
 have h0:=wrong_ok hw
 have HALL:Hid (doGo P S S (housesE P)=doAllE S P):=η (doGo_all h1 h3 fun p hp=>by have:=h0.2.2.1 p hp;omega)
 have HIN:Hid (∀n∈housesE P,0≤n∧n<S.length):=fun n hn=>houses_lt hw hn
 have hne:P≠ []:=by intro e;rw [e] at h0;simp at h0
 have HCL:=η (fun(W:World) (hW:Grow w W)=>clone_sm W (hv.mono hW.sub) (by omega))
 have HPH:=η (fun(W:World) (hW:Grow w W)=>part_houses W (hp.mono hW.sub) (by omega) hne (fun p hp=>by have:=h0.2.2.1 p hp;omega))
 have HPO:=η (fun(n:Int) (W:World) (hW:Grow w W)=>part_of (n:=n) W (hp.mono hW.sub) (by omega))
 have HKA:=η (fun(n:Int)=>ofL_ok hw n)
 have HSO:Hid (∀x∈S,SmOk x):=fun x hx=>by
  obtain⟨a,cap,rfl,-,-,-,hel⟩:=hv
  obtain⟨i,hi⟩:=List.mem_iff_getElem?.1 hx
  obtain⟨b,o,cs,-,hR,-⟩:=hel i x hi
  exact hR.2
 obtain⟨ap,cp,rfl,-⟩:=hp
 obtain⟨a,cap,rfl,h1',h2,-,hel⟩:=hv
 unfold maxLen at h2
 clear hw hne h0
 go_enter Try.func92,Try.ntmps92
 go_wp2_with fail
 refine(HCL.o _ (Grow.refl _)).mono ?_
 rintro e w1 ⟨v1,rfl,ho1,hb1⟩
 have HO1:Hid (OwnC Ty.sm (fun _=>none) w1 w.heap.size 25 v1 S):=η (OwnC.of_flat (T:=Ty.sm) (f:=Sm.cells) ho1 fun x hx=>⟨rfl,HSO.o x hx⟩)
 obtain⟨a1,c1,rfl⟩:=HO1.o.form
 have HB1:=η hb1
 have hmx:S.length≤c1∧c1≤9223372036854775807:=by
  obtain⟨a0,c0,he,h0,h01,-⟩:=HO1.o.sl (by decide) (fun a v e=>by cases e)
  simp only [Value.slice.injEq] at he
  unfold maxLen at h01
  omega
 obtain⟨g,cs0,rfl,-,-⟩:=HO1.o.get (by decide) 0 (by omega)
 have HGB:=η ((HO1.o.lt g rfl).1)
 clear hb1 ho1
 go_wp2_with fail
 refine(HPH.o _ HB1.o).mono ?_
 rintro e w2 ⟨v2,rfl,ho2,hb2⟩
 obtain⟨a2,c2,rfl⟩:=owns_form ho2
 have HB2:=η (HB1.o.trans hb2)
 have HI2:=(OwnC.ints (c:=fun _=>none) ho2 (fun x hx=>by have:=HIN.o x hx;unfold I64;simp [Lit.wf,IntKind.min,IntKind.max,IntKind.signed,IntKind.bits];omega)).slc (d:=ov (fun _=>none) w1 w2) (by decide) (fun a v e=>by cases e) (fun a h=>ov_new h)
 have HS2:=η (ov_sub (c:=fun _=>none) (W:=w1) (w:=w2) (fun a v e=>by cases e) hb2)
 have HNG:Hid (g<w1.heap.size):=η (HO1.o.lt g rfl).2
 obtain⟨a2',c2',he2,p1,p2,-,hel2⟩:=HI2
 obtain⟨rfl,rfl⟩:a2=a2'∧c2=c2':=by simpa using he2
 unfold maxLen at p2
 have HO2:=η (HO1.o.grow hb2)
 clear ho2 hb2 he2
 generalize housesE P=ns at*
 go_wp2
 go_loopw [4,5,8,9,10,16] (fun _ _ _ _ _ i wr=>∃(k:Nat) (out:List Sm),k≤ns.length∧i=.int .i64 k∧Grow w wr∧Sub (ov (fun _=>none) w1 w2) wr.cell?∧out.length=S.length∧OwnC Ty.sm (fun _=>none) wr w.heap.size 25 (.slice (some ⟨g,0,none⟩) S.length c1) out∧doGo P S S ns=doGo P S out (ns.drop k)) (fun _ _ _ _ _ i _=>ns.length - (intOf i).toNat)
 case atStart=>exact⟨0,S,by omega,rfl,HB2.o,HS2.o,rfl,HO2.o,rfl⟩
 case round=>
  obtain⟨k,out,hk',rfl,hb,hsub,hlo,hown,hE⟩:=hrel
  by_cases hlt:k<ns.length
  ·obtain⟨b2,o2,rfl,e0,-⟩:=intAt hel2 k hlt
   replace e0:=hsub _ _ e0
   have hn:=HIN.o ns[k] (List.getElem_mem hlt)
   rw [List.drop_eq_getElem_cons hlt,doGo] at hE
   generalize ns[k]=n at*
   obtain⟨m,rfl⟩:∃m:Nat,n=m:=⟨n.toNat,by omega⟩
   have hmS:m<S.length:=by omega
   obtain⟨b,o,rfl,q0,q1,q2,q3,i0,i1,i2,i3⟩:=smAt hel m hmS
   replace q0:=hb.sub _ _ q0
   replace q1:=hb.sub _ _ q1
   replace q2:=hb.sub _ _ q2
   replace q3:=hb.sub _ _ q3
   simp only [Int.toNat_natCast] at hE
   rw [getD_at hmS] at hE
   have HSK:Hid (SmOk (doP S[m] (ofL P m))):=η (SmOk.doP ⟨i0,i1,i2,i3⟩ _)
   have hown2:=hown
   rw [←hlo] at hown2
   have HOW:=η hown2
   have HLO:=η hlo
   have HB:=η hb
   have HSB:=η hsub
   have HKO:=η (HKA.o (m:Int))
   have HMS:=η hmS
   clear hel hel2 hown hown2 i0 i1 i2 i3 hb hlo hn hsub
   generalize S[m]=s at*
   rw [show s.get=S4 s.a s.b s.c s.d from rfl] at hE
   by_cases hf:fitsE (S4 s.a s.b s.c s.d) (ofL P m)=0
   ·have HEN:=η (show doGo P S S ns=doGo P S (out.set m (doP s (ofL P m))) (ns.drop (k+1)) by rw [hE,if_pos hf])
    have hbf:(fitsE (S4 s.a s.b s.c s.d) (ofL P m) !=0)=false:=by simp [hf]
    clear hE hf
    go_wp2_with fail
    refine(HPO.o _ _ HB.o).mono ?_
    rintro e w3 ⟨v3,rfl,ho3,hb3⟩
    obtain⟨a3,c3,rfl⟩:=ho3.form
    have HP3:=η (ho3.sl (by decide) (fun a v e=>by cases e))
    have HB3:=η hb3
    replace q0:=hb3.sub _ _ q0
    replace q1:=hb3.sub _ _ q1
    replace q2:=hb3.sub _ _ q2
    replace q3:=hb3.sub _ _ q3
    clear ho3 hb3 e0
    go_wp2_with fail
    refine(part_fits (s0:=s.a) (s1:=s.b) (s2:=s.c) (s3:=s.d) _ HP3.o HKO.o).mono ?_
    rintro e w4 ⟨rfl,hb4⟩
    have HB4:=η (HB3.o.trans hb4)
    have HP4:=η (HP3.o.mono hb4.sub)
    replace q0:=hb4.sub _ _ q0
    replace q1:=hb4.sub _ _ q1
    replace q2:=hb4.sub _ _ q2
    replace q3:=hb4.sub _ _ q3
    clear hb4
    go_wp2_with fail
    refine(part_do (s:=s) _ HP4.o HKO.o).mono ?_
    rintro e w5 ⟨rfl,hb5⟩
    have HB5:=η (HB4.o.trans hb5)
    clear hb5 q0 q1 q2 q3
    have HOB:=η (HOW.o.grow HB5.o)
    go_wp2_with (first|(refine wpList_store_el (T:=Ty.sm) (i:=m) (x:=doP s (ofL P m)) (cells:=#[.int .i64 (doP s (ofL P m)).a,.int .i64 (doP s (ofL P m)).b,.int .i64 (doP s (ofL P m)).c,.int .i64 (doP s (ofL P m)).d]) rfl (.tmp 42) (.tmp 41) rfl rfl rfl ?hp HOB.o ?hi info_sm ⟨rfl,HSK.o.1,HSK.o.2.1,HSK.o.2.2.1,HSK.o.2.2.2⟩ rfl ?_))
    case hp=>show _=m*4;omega
    case hi=>rw [HLO.o];exact HMS.o
    intro wz hoz hgz
    have HOZ:Hid (OwnC Ty.sm (fun _=>none) wz w.heap.size 25 (.slice (some ⟨g,0,none⟩) S.length c1) (out.set m (doP s (ofL P m)))):=η (by rw [←HLO.o];exact hoz)
    have HGZ:=η (Grow.grown (HB.o.trans HB5.o) hgz (fun q hq=>by obtain rfl:=Option.some.inj hq;exact HGB.o))
    have HSZ:Hid (Sub (ov (fun _=>none) w1 w2) wz.cell?):=η (fun a v e=>by
     have e2:=(HSB.o.trans HB5.o.sub) a v e
     have hag:a.block≠g:=by
      intro hag
      unfold ov at e
      rw [if_pos (by have:=HNG.o;omega)] at e
      cases e
     rw [by_cell hgz (World.block_lt_of_cell? w5 a e2) hag];exact e2)
    clear hoz hgz
    go_wp2
    go_roundw
    case rel=>exact⟨k+1,_,by omega,by go_num,HGZ.o,HSZ.o,by rw [List.length_set];exact HLO.o,HOZ.o,HEN.o⟩
    case measure=>simp [intOf];omega
   ·have HER:=η (show doAllE S P=(S,fitsE (S4 s.a s.b s.c s.d) (ofL P m)) by
     rw [←HALL.o,hE,if_neg hf])
    have hbf:(fitsE (S4 s.a s.b s.c s.d) (ofL P m) !=0)=true:=by simp [hf]
    clear hE hf
    go_wp2_with fail
    refine(HPO.o _ _ HB.o).mono ?_
    rintro e w3 ⟨v3,rfl,ho3,hb3⟩
    obtain⟨a3,c3,rfl⟩:=ho3.form
    have HP3:=η (ho3.sl (by decide) (fun a v e=>by cases e))
    have HB3:=η hb3
    replace q0:=hb3.sub _ _ q0
    replace q1:=hb3.sub _ _ q1
    replace q2:=hb3.sub _ _ q2
    replace q3:=hb3.sub _ _ q3
    clear ho3 hb3 e0
    go_wp2_with fail
    refine(part_fits (s0:=s.a) (s1:=s.b) (s2:=s.c) (s3:=s.d) _ HP3.o HKO.o).mono ?_
    rintro e w4 ⟨rfl,hb4⟩
    have HB4:=η (HB.o.trans (HB3.o.trans hb4))
    clear hb4 q0 q1 q2 q3
    go_wp2_with fail
    refine(HCL.o _ HB4.o).mono ?_
    rintro e w5 ⟨v5,rfl,ho5,hb5⟩
    have HO5:Hid (OwnC Ty.sm (fun _=>none) w5 w4.heap.size 25 v5 S):=η (OwnC.of_flat (T:=Ty.sm) (f:=Sm.cells) ho5 fun x hx=>⟨rfl,HSO.o x hx⟩)
    have HB5:=η (HB4.o.trans hb5)
    clear ho5 hb5
    obtain⟨a5,c5,rfl⟩:=HO5.o.form
    go_wp2
    refine bodyPost_ret (v:=.tuple #[.slice a5 S.length c5,.int .i64 (fitsE (S4 s.a s.b s.c s.d) (ofL P m))]) (by simp [results,Try.results92,go_sem]) rfl ?_
    exact⟨_,by rw [HER.o],by rw [HER.o];exact HO5.o.sl (by decide) (fun a v e=>by cases e),HB5.o,by rw [HER.o];exact HO5.o.base HB4.o.size⟩
  ·have HR9:=η (show doAllE S P=(out,0) by
    rw [←HALL.o,hE,List.drop_of_length_le (by omega)];rfl)
   have H10:=η hown
   have H9:Hid (Sms wr.cell? (.slice (some ⟨g,0,none⟩) S.length c1) out):=η (by
    have h8:=hown
    rw [←hlo] at h8
    have h9:=h8.sl (by decide) (fun a v e=>by cases e)
    rw [hlo] at h9
    exact h9)
   clear hel hel2 hE hown
   go_wp2
   refine bodyPost_ret (v:=.tuple #[.slice (some ⟨g,0,none⟩) S.length c1,.int .i64 0]) (by simp [results,Try.results92,go_sem]) rfl ?_
   exact⟨_,by rw [HR9.o],by rw [HR9.o];exact H9.o,hb,by rw [HR9.o];exact H10.o⟩
theorem all_snoc:∀(S:List Sm) (D:List Rd) (r:Rd),allE S (D++ [r])=((doAllE (allE S D).1 r.parts).1,(allE S D).2++ [(doAllE (allE S D).1 r.parts).2])
 |S,[],r=>rfl
 |S,q::D,r=>by rw [List.cons_append,allE,all_snoc,allE];rfl
theorem all_len:∀(S:List Sm) (D:List Rd),(allE S D).2.length=D.length
 |_,[]=>rfl
 |S,r::D=>by rw [allE,List.length_cons,List.length_cons,all_len]
theorem doAll_len' (S:List Sm) (P:List Pt):(doAllE S P).1.length=S.length:=by
 unfold doAllE
 split
 ·exact putGo_len _ _
 ·rfl
theorem all_len1:∀(S:List Sm) (D:List Rd),(allE S D).1.length=S.length
 |_,[]=>rfl
 |S,r::D=>by rw [allE,all_len1,doAll_len']
theorem fits_i64 (f:Int→Int):∀l:List Pt,I64 (fitsE f l)
 | []=>zero_ok
 |p::l=>by
  unfold fitsE
  split
  ·show I64 11;unfold I64;decide
  ·split
   ·show I64 4;unfold I64;decide
   ·exact fits_i64 f l
theorem err_i64 (P:List Pt):∀(S:List Sm) (k:Nat),I64 (errGo P k S)
 | [],_=>zero_ok
 |s::S,k=>by
  unfold errGo
  split
  ·exact err_i64 P S _
  ·exact fits_i64 _ _
theorem doAll_i64 (S:List Sm) (P:List Pt):I64 (doAllE S P).2:=by
 unfold doAllE
 split
 ·exact zero_ok
 ·exact err_i64 P S 0
theorem make_sums {n:Nat} (h:1≤n∧n≤3):∃cs:Array Value,(∀w:World,(Instr.makeSlice 98 (.int .i64 n) (.int .i64 n)).run Try.prog w=.ok (.slice (some ⟨w.heap.size,0,none⟩) n n) (w.alloc (.cells cs 25)))∧
  ∀(w:World),OwnC Ty.sm (fun _=>none) (w.alloc (.cells cs 25)) w.heap.size 25 (.slice (some ⟨w.heap.size,0,none⟩) n n) (List.replicate n ⟨0,0,0,0⟩):=by
 have key:∀(m:Nat) (cs:Array Value),m≤3→cs.toList=(List.replicate m (⟨0,0,0,0⟩:Sm)).flatMap Sm.cells→∀(w:World),OwnC Ty.sm (fun _=>none) (w.alloc (.cells cs 25)) w.heap.size 25 (.slice (some ⟨w.heap.size,0,none⟩) m m) (List.replicate m ⟨0,0,0,0⟩):=by
  intro m cs hm hc w
  have h1:=World.ownsRow_lit (base:=w.heap.size) (e:=25) (size:=4) w cs m (Nat.le_refl _) (by unfold maxLen;omega) (by rw [←Array.length_toList,hc,flat_len (f:=Sm.cells) (size:=4) (fun _=>rfl)];simp)
  rw [hc] at h1
  have h2:=OwnC.of_flat (T:=Ty.sm) (f:=Sm.cells) (c:=fun _=>none) (l:=List.replicate m ⟨0,0,0,0⟩) (by rw [List.length_replicate];exact h1) (fun x hx=>by
   rw [List.eq_of_mem_replicate hx]
   exact⟨rfl,zero_ok,zero_ok,zero_ok,zero_ok⟩)
  exact h2
 obtain⟨h1,h2⟩:=h
 match n,h1,h2 with
 |1,_,_=>exact⟨#[.int .i64 0,.int .i64 0,.int .i64 0,.int .i64 0],fun w=>by kernel_rfl,key 1 _ (by decide) rfl⟩
 |2,_,_=>exact⟨#[.int .i64 0,.int .i64 0,.int .i64 0,.int .i64 0,.int .i64 0,.int .i64 0,.int .i64 0,.int .i64 0],fun w=>by kernel_rfl,key 2 _ (by decide) rfl⟩
 |3,_,_=>exact⟨#[.int .i64 0,.int .i64 0,.int .i64 0,.int .i64 0,.int .i64 0,.int .i64 0,.int .i64 0,.int .i64 0,.int .i64 0,.int .i64 0,.int .i64 0,.int .i64 0],fun w=>by kernel_rfl,key 3 _ (by decide) rfl⟩
set_option maxRecDepth 100000 in
set_option maxHeartbeats 2000000 in
theorem model_all {v:Value} {n:Nat} {D:List Rd} (w:World) (hn:1≤n∧n≤3) (hv:Sl Ty.rd w.cell? v D) (hD:∀r∈D,wrongE r.parts n=0) (hm:D.length*8≤140737488355328):
  Calls Try.prog 95 #[.int .i64 n,v] w fun e w'=>∃v1 v2,e=.returned (.tuple #[v1,v2])∧Sms w'.cell? v1 (allE (List.replicate n ⟨0,0,0,0⟩) D).1∧Sl Ty.int w'.cell? v2 (allE (List.replicate n ⟨0,0,0,0⟩) D).2∧Grow w w':=by
 obtain⟨cs,hmk,hms⟩:=make_sums hn
 have HMS:=η (hms w)
 obtain⟨a,cap,rfl,h1,h2,-,hel⟩:=hv
 unfold maxLen at h2
 have HN:=η hn
 have HM:=η hm
 clear hms hm
 go_enter Try.func95,Try.ntmps95
 go_wp2
 clear hmk
 go_loopw [6,7,10,11,16] (fun sS sE _ _ i wr=>∃k:Nat,k≤D.length∧i=.int .i64 k∧Grow w wr∧OwnC Ty.sm (fun _=>none) wr w.heap.size 25 sS (allE (List.replicate n ⟨0,0,0,0⟩) (D.take k)).1∧(∀g,sS.ownBlock=some g→sE.ownBlock≠some g)∧OwnC Ty.int (fun _=>none) wr w.heap.size 40 sE (allE (List.replicate n ⟨0,0,0,0⟩) (D.take k)).2) (fun _ _ _ _ i _=>D.length - (intOf i).toNat)
 case atStart=>exact⟨0,by omega,rfl,(Grow.refl w).alloc _,HMS.o,fun g _ e=>by simp [Value.ownBlock] at e,OwnC.nil _ _ _ _ _⟩
 case round=>
  obtain⟨k,hk',rfl,hb,hOS,hne,hE⟩:=hrel
  have hS:=hOS.sl (by decide) (fun a v e=>by cases e)
  obtain⟨aS,cS,rfl⟩:=hOS.form
  obtain⟨aE,cE,rfl⟩:=hE.form
  by_cases hlt:k<D.length
  ·obtain⟨b,o,vp,rfl,c0,c1,i0,hP⟩:=Rds.at_ hel k hlt
   obtain⟨ap,cp,rfl,-⟩:=id hP
   have hw:=hD D[k] (List.getElem_mem hlt)
   have HSN:=η (all_snoc (List.replicate n ⟨0,0,0,0⟩) (D.take k) D[k])
   rw [←List.take_succ_eq_append_getElem hlt] at HSN
   have hel2:(allE (List.replicate n ⟨0,0,0,0⟩) (D.take k)).2.length=k:=by rw [all_len];simp;omega
   have HEL:=η hel2
   clear hel2
   have hsl:(allE (List.replicate n ⟨0,0,0,0⟩) (D.take k)).1.length=n:=by rw [all_len1];simp
   replace c0:=hb.sub _ _ c0
   replace c1:=hb.sub _ _ c1
   have h0:=wrong_ok hw
   have HCA:=η (fun(W:World) (hW:Grow wr W)=>model_do W (hS.mono hW.sub) (hP.mono (hb.trans hW).sub) (by rw [hsl];exact hw) (by rw [hsl];exact HN.o.1) (by rw [hsl];exact HN.o.2))
   have HI:=η (doAll_i64 (allE (List.replicate n ⟨0,0,0,0⟩) (D.take k)).1 D[k].parts)
   have HE:=η hE
   have HOS:=η hOS
   have HNE:=η hne
   have HB:=η hb
   clear hel hS hE hP hw h0 hD hb i0 hsl hOS hne
   generalize (allE (List.replicate n ⟨0,0,0,0⟩) (D.take k)).1=S at*
   generalize (allE (List.replicate n ⟨0,0,0,0⟩) (D.take k)).2=E at*
   generalize D[k]=r at*
   generalize (doAllE S r.parts).1=S' at*
   generalize (doAllE S r.parts).2=er at*
   go_wp2_with fail
   refine(HCA.o _ ((Grow.refl wr).alloc _)).mono ?_
   rintro e w3 ⟨v3,rfl,hS3,hb3,hO3⟩
   obtain⟨a3,c3,rfl,-⟩:=id hS3
   have HS3:Hid (OwnC Ty.sm (fun _=>none) w3 w.heap.size 25 (.slice a3 S'.length c3) S'∧∀g,(Value.slice a3 S'.length c3).ownBlock=some g→(Value.slice aE E.length cE).ownBlock≠some g):=η ⟨hO3.base (by have:=HB.o.size;simp;omega),fun g hg e=>by have:=(hO3.lt g hg).1;have:=(HE.o.lt g e).2;simp at*;omega⟩
   have HB3:=η (((Grow.refl wr).alloc _).trans hb3)
   clear hS3 hb3 hO3
   go_wp2_with (first|(at_builtin;refine wpList_appc (c:=fun _=>none) (base:=w.heap.size) (l:=E) (m:=[er]) ei_errno rfl one_Tint (by decide) rfl (.tmp 28) (.tmp 30) rfl rfl ?own rfl (Src.of_new (T:=Ty.int) (cs:=#[.int .i64 er]) ⟨rfl,HI.o⟩ _ _ ?d1) ?d2 ?d3 ?_))
   case own=>exact(HE.o.grow HB3.o).grow ((Grow.refl _).alloc _)
   case d1=>simp
   case d2=>have:=HM.o;have:=HEL.o;simp;omega
   case d3=>have:=(HB.o.trans HB3.o).size;simp;omega
   intro a9 c9 w9 ho9 hg9 hb9
   have HO9:=η ho9
   have HG9:=η (grow_by (w0:=w) ((HB.o.trans HB3.o).alloc _) hg9 (fun q hq=>(HE.o.lt q hq).1))
   have HS9:Hid (OwnC Ty.sm (fun _=>none) w9 w.heap.size 25 (.slice a3 S'.length c3) S'):=η ((HS3.o.1.grow ((Grow.refl _).alloc _)).kept hg9 (by
    cases hq:(Value.slice a3 S'.length c3).ownBlock with
    |none=>exact .inl rfl
    |some q=>exact .inr (fun e=>HS3.o.2 q hq e.symm)))
   have HN9:Hid (∀g,(Value.slice a3 S'.length c3).ownBlock=some g→(Value.slice a9 (E.length+ [er].length) c9).ownBlock≠some g):=η (fun q hq e=>by
    change (Value.slice a9 (E.length+1) c9).ownBlock=some q at e
    rcases hb9 with h|⟨g2,h,hg2⟩
    ·rw [h] at e;exact HS3.o.2 q hq e
    ·rw [h] at e
     obtain rfl:=Option.some.inj e
     have:=(HS3.o.1.lt _ hq).2
     (try simp at hg2);omega)
   clear ho9 hg9 hb9
   go_wp2
   go_roundw
   case rel=>exact⟨k+1,by omega,by go_num,HG9.o,by rw [HSN.o];exact HS9.o,HN9.o,by rw [HSN.o];exact HO9.o⟩
   case measure=>simp [intOf];omega
  ·rw [List.take_of_length_le (by omega)] at hS hE ⊢
   clear hOS hne
   have HS:=η hS
   have HE:=η (hE.sl (by decide) (fun a v e=>by cases e))
   clear hel hS hE
   go_wp2
   refine bodyPost_ret (v:=.tuple #[.slice aS (allE (List.replicate n ⟨0,0,0,0⟩) D).1.length cS,.slice aE (allE (List.replicate n ⟨0,0,0,0⟩) D).2.length cE]) (by simp [results,Try.results95,go_sem]) rfl ?_
   exact⟨_,_,rfl,HS.o,HE.o,hb⟩
def ApartP (a b:List Pt):Prop:=∀p∈a,∀q∈b,¬(p.h=q.h∧p.k=q.k)
theorem ApartP.symm {a b:List Pt} (h:ApartP a b):ApartP b a:=fun p hp q hq e=>h q hq p hp ⟨e.1.symm,e.2.symm⟩
def All2 {α β:Type} (R:α→β→Prop):List α→List β→Prop
 | [],[]=>True
 |a::l,b::m=>R a b∧All2 R l m
 |_,_=>False
theorem All2.len {α β:Type} {R:α→β→Prop}:∀{l:List α} {m:List β},All2 R l m→l.length=m.length
 | [],[],_=>rfl
 |_::_,_::_,h=>by rw [List.length_cons,List.length_cons,All2.len h.2]
 | [],_::_,h=>h.elim
 |_::_,[],h=>h.elim
theorem All2.get {α β:Type} {R:α→β→Prop}:∀{l:List α} {m:List β},All2 R l m→∀(i:Nat) (a:α) (b:β),l[i]? =some a→m[i]? =some b→R a b
 | [],[],_,i,a,b,h1,_=>by simp at h1
 |_::_,_::_,h,0,a,b,h1,h2=>by
  simp only [List.getElem?_cons_zero,Option.some.injEq] at h1 h2
  subst h1 h2
  exact h.1
 |_::_,_::_,h,i+1,a,b,h1,h2=>All2.get h.2 i a b (by simpa using h1) (by simpa using h2)
 | [],_::_,h,_,_,_,_,_=>h.elim
 |_::_,[],h,_,_,_,_,_=>h.elim
theorem OwnC.lit {α:Type} {T:Ty α} {c:CM} {base e:Nat} (w:World) {cs:Array Value} (css:List (List Value)) {l:List α} {g n:Nat} (hg:g=w.heap.size) (hn:n=l.length) (hb:base≤w.heap.size) (hm:l.length≤maxLen) (hcs:cs.toList=css.flatten) (hR:All2 (T.R c) css l):OwnC T c (w.alloc (.cells cs e)) base e (.slice (some ⟨g,0,none⟩) n n) l:=by
 subst hg hn
 have hl:=hR.len
 have h3:=hR.get
 refine⟨css,?_,hl,h3⟩
 have h:=World.ownsRow_lit (base:=base) (e:=e) (size:=T.size) w cs l.length hb hm (by rw [←Array.length_toList,hcs,flatten_len css (css_len hl h3),hl])
 rw [hcs] at h
 exact h
theorem Sl.lit {α:Type} {T:Ty α} {e:Nat} (w:World) {W:World} {cs:Array Value} (css:List (List Value)) {l:List α} {g n:Nat} (h0:0<T.size) (hW:Grow (w.alloc (.cells cs e)) W) (hg:g=w.heap.size) (hn:n=l.length) (hm:l.length≤maxLen) (hcs:cs.toList=css.flatten) (hR:All2 (T.R w.cell?) css l):Sl T W.cell? (.slice (some ⟨g,0,none⟩) n n) l:=
 ((OwnC.lit (base:=w.heap.size) (e:=e) w css hg hn (Nat.le_refl _) hm hcs hR).sl h0 ((Grow.refl _).alloc _).sub).mono hW.sub
def m5:Ms:=⟨1,70,2,[⟨2,1,-5⟩]⟩
theorem right_kind {m:Ms} (h:wrongM m=0):0≤m.kind∧m.kind<256:=by
 have:=(right_m.1 h).kind
 omega
theorem right_len {m:Ms} (h:wrongM m=0):m.parts.length≤4:=(right_m.1 h).len
def sendB (l:List (List UInt8)) (ms:List Ms):List (List UInt8):=l++(ms.take (24 - l.length)).map bytesM
theorem sendB_nil (l:List (List UInt8)):sendB l []=l:=by simp [sendB]
theorem sendB_len (l:List (List UInt8)) (ms:List Ms):(sendB l ms).length=l.length+min (24 - l.length) ms.length:=by simp [sendB]
theorem sendB_step {l:List (List UInt8)} {ms:List Ms} {k:Nat} (h:k<ms.length):sendB l (ms.take (k+1))=if(sendB l (ms.take k)).length<24 then sendB l (ms.take k)++ [bytesM ms[k]] else sendB l (ms.take k):=by
 have hl:=sendB_len l (ms.take k)
 rw [List.length_take] at hl
 by_cases hc:(sendB l (ms.take k)).length<24
 ·rw [if_pos hc]
  unfold sendB
  rw [List.take_take,List.take_take,Nat.min_eq_right (by omega),Nat.min_eq_right (by omega),List.take_succ_eq_append_getElem h,List.map_append,List.append_assoc]
  rfl
 ·rw [if_neg hc]
  unfold sendB
  rw [List.take_take,List.take_take,Nat.min_eq_left (by omega),Nat.min_eq_left (by omega)]
theorem appR {w:World} {o:Oper} {a:Act} {K:Act→World→Prop} {Q:Exit→Act→World→Prop} (s x:Operand)
  (ho:o.op=.call { callee:=.builtin .append,args:=#[s,x],argTypes:=#[69,69] })
  {base base':Nat} {v v2:Value} {b b2:List UInt8} (hs:a.eval s=v) (hown:OwnB w base v b) (hbase:base≤w.heap.size) (hx:a.eval x=v2) (h2:OwnB w base' v2 b2)
  (hlen:b.length+b2.length≤140737488355328)
  (h:∀v' w',OwnB w' base v' (b++b2)→MoreB w w' v v'→K (a.put o.dst v') w'):o.wp Try.prog a w K Q:=by
 obtain⟨a2,c2,rfl⟩:=owns_form h2
 obtain⟨e1,e2⟩:=own_src h2
 refine wp_app_any ei_byte s x ho hs hown a2 b2.length c2 (b2.flatMap byteCell) hx e1 (flat_len (size:=1) (f:=byteCell) (fun _=>rfl) b2) e2 (flat_one one_byte b2) (by unfold maxLen;omega) (by omega) hbase fun a' c' w' hA=>?_
 have h1:=hA.own
 rw [flat_bytes] at h1
 refine h _ w' ?_ ⟨hA.grown,hA.blk⟩
 have e:b.length+b2.length=(b++b2).length:=by simp
 rw [e] at h1 ⊢
 exact h1
theorem litB {w W:World} {base:Nat} {k:Int} {x:UInt8} (hk:k=(x.toNat:Int)) (hb:base≤w.heap.size) (hW:W=w.alloc (.cells #[.int .u8 k] 5)):OwnB W base (.slice (some ⟨w.heap.size,0,none⟩) 1 1) [x]:=by
 subst hW hk
 exact World.ownsRow_lit (base:=base) (e:=5) (size:=1) w #[.int .u8 x.toNat] 1 hb (by decide) rfl
theorem OwnB.low {w:World} {base base':Nat} {v:Value} {b:List UInt8} (h:OwnB w base v b) (hb:base'≤base):OwnB w base' v b:=by
 obtain⟨hl,⟨he,hn⟩|⟨g,cap,cur,he,hg,hr⟩⟩:=h
 ·exact⟨hl,.inl ⟨he,hn⟩⟩
 ·exact⟨hl,.inr ⟨g,cap,cur,he,Nat.le_trans hb hg,hr⟩⟩
set_option maxRecDepth 100000 in
set_option maxHeartbeats 2000000 in
theorem ref_bytes {v:Value} {m:Ms} (w:World) (hv:Of Ty.ms w.cell? v m) (hk:0≤m.kind∧m.kind<256) (hl:m.parts.length≤4):
  Calls Try.prog 136 #[v] w fun e w'=>∃v',e=.returned v'∧OwnB w' w.heap.size v' (bytesM m)∧Grow w w':=by
 obtain⟨ap,cp,rfl⟩:=hv.ms_form
 obtain⟨hp,ik,id',ih⟩:=hv.ms_parts
 have hok:=Pts.ok hp
 have HKB:Hid (IntKind.u8.wrap m.kind=((UInt8.ofNat m.kind.toNat).toNat:Int)):=η (by rw [IntWalk.u8_in _ (by omega)];exact kind_byte hk)
 have HI1:=η id'
 have HI2:=η ih
 have HI3:Hid (I64 (m.parts.length:Int)):=η (i64_of (by omega) (by omega))
 have HN1:=η (numB_len (i64_bounds id').1 (i64_bounds id').2)
 have HN2:=η (numB_len (i64_bounds ih).1 (i64_bounds ih).2)
 have HN3:=η (numB_len (i64_bounds HI3.o).1 (i64_bounds HI3.o).2)
 have HPL:=η (fun k=>partsBytes_len (l:=m.parts.take k) fun p hp=>hok p (List.mem_of_mem_take hp))
 have HM:Hid ((([UInt8.ofNat m.kind.toNat]++numB m.deed)++numB m.house)++numB (m.parts.length:Int)++m.parts.flatMap partBytes=msgHead m):=η (by unfold msgHead;simp)
 have HEL:=η hp
 obtain⟨hk0,hk1⟩:=hk
 clear hv ik id' ih hok hp
 go_enter Try.func136,Try.ntmps136
 go_upto_region 1 with fail
 obtain⟨wa,hwa⟩:∃x:World,x=w.alloc (.cells #[.int .i64 m.kind,.int .i64 m.deed,.int .i64 m.house,.slice ap m.parts.length cp] 39):=⟨_,rfl⟩
 have RA:Hid (wa.heap[w.heap.size]? =some (.cells #[.int .i64 m.kind,.int .i64 m.deed,.int .i64 m.house,.slice ap m.parts.length cp] 39 (0,0))):=η (by rw [hwa];exact row_new _ _)
 have GA:Hid (Grow w wa):=η (by rw [hwa];exact(Grow.refl w).alloc _)
 have ZA:Hid (wa.heap.size=w.heap.size+1):=η (by rw [hwa];simp)
 rw [←hwa]
 clear hwa
 go_cut [3] from 15 (fun bv wc=>OwnB wc (w.heap.size+1) bv ([UInt8.ofNat m.kind.toNat]++numB m.deed)∧Grow w wc∧wc.heap[w.heap.size]? =some (.cells #[.int .i64 m.kind,.int .i64 m.deed,.int .i64 m.house,.slice ap m.parts.length cp] 39 (0,0)))
 case first=>
  refine but_start (fun w'=>w'.cell? ⟨w.heap.size,0,none⟩=some (.int .i64 m.kind)∧w'.cell? ⟨w.heap.size,1,none⟩=some (.int .i64 m.deed)) 8 (by kernel_rfl) ?_
  obtain⟨wd,hWd⟩:∃x:World,x=wa.drew:=⟨_,rfl⟩
  rw [←hWd]
  have GD:Grow wa wd:=by rw [hWd];exact(Grow.refl _).drew
  have zD:wa.heap.size=wd.heap.size:=by rw [hWd];rfl
  have ZD:=η zD
  clear hWd zD
  refine bLm [0] 12 (by kernel_rfl) (fun _ _ _ _ _ h=>h) (⟨(cells4 (row_grow RA.o GD)).1,(cells4 (row_grow RA.o GD)).2.1⟩) ?_
  repeat (refine tNm (v:=?_) rfl (by rfl) ?_ ?_;rotate_left;(· (intro w' hSw;(try dsimp only at hSw);obtain⟨hs0,hs1⟩:=hSw;go_simp<;>with_reducible rfl));try simp only [Act.put,lzA,lzC,lzD,lzE,lzF])
  refine tEm ?_
  refine bLm [1,2,4,5] 12 (by kernel_rfl) (fun _ _ _ _ _ h=>h) (⟨(cells4 (row_grow RA.o GD)).1,(cells4 (row_grow RA.o GD)).2.1⟩) ?_
  repeat (refine tNm (v:=?_) rfl (by rfl) ?_ ?_;rotate_left;(· (intro w' hSw;(try dsimp only at hSw);obtain⟨hs0,hs1⟩:=hSw;go_simp<;>with_reducible rfl));try simp only [Act.put,lzA,lzB,lzC,lzD,lzE,lzF])
  refine tEm ?_
  refine bP 3 6 (by kernel_rfl) rfl rfl ?_ ?_
  ·intro K HK
   try simp only [lzA,lzB,lzC]
   go_simp
   obtain⟨wl,hwl⟩:∃x:World,x=wd.alloc (.cells #[.int .u8 (IntKind.u8.wrap m.kind)] 5):=⟨_,rfl⟩
   have HL3:=η (litB (base:=w.heap.size+1) (k:=IntKind.u8.wrap m.kind) HKB.o (by have:=ZA.o;have:=GD.size;omega) hwl)
   have GL:Grow wd wl:=by rw [hwl];exact(Grow.refl _).alloc _
   have RL:=η (row_grow (row_grow RA.o GD) GL)
   have GWL:Grow wa wl:=Grow.trans GD GL
   rw [←hwl]
   clear hwl
   refine HK.o _ _ ⟨fun _=>⟨(cells4 RL.o).1,(cells4 RL.o).2.1⟩,?_⟩
   clear HK K
   try simp only [Act.put,lzA,lzB,lzC,lzD,lzE,lzF]
   refine bO 6 (by kernel_rfl) rfl ?_
   intro K HK
   try simp only [lzA,lzB,lzC]
   go_simp
   go_at_call 166
   refine(ref_number _ HI1.o).mono ?_
   rintro e wn ⟨vn,rfl,hon,hbn⟩
   have HON:=η hon
   have RN:=η (row_grow RL.o hbn)
   have GN:=η hbn
   have GWN:Grow wa wn:=Grow.trans GWL hbn
   clear hon hbn
   refine HK.o _ _ ⟨fun _=>⟨(cells4 RN.o).1,(cells4 RN.o).2.1⟩,?_⟩
   clear HK K
   try simp only [Act.put,lzA,lzB,lzC,lzD,lzE,lzF]
   refine bO 7 (by kernel_rfl) rfl ?_
   intro K HK
   refine wanted_go rfl ?_
   try simp only [lzA,lzB,lzC]
   refine appR (.tmp 10) (.tmp 13) rfl rfl (OwnB.grow HL3.o GN.o) (by have:=ZA.o;have:=GWN.size;omega) rfl HON.o (by have:=HN1.o;simp;omega) ?_
   intro v7 w7 ho7 hm7
   have HO7:=η ho7
   have R7:=η (hm7.row RN.o (fun q hq=>by have:=(OwnB.low (OwnB.grow HL3.o GN.o) (Nat.le_refl _)).lt q hq;omega))
   have G7:=η (hm7.all (GA.o.trans GWN) (fun q hq=>by have:=World.ownsRow.lt (OwnB.grow HL3.o GN.o) q hq;omega))
   clear ho7 hm7
   refine HK.o _ _ ⟨fun _=>⟨(cells4 R7.o).1,(cells4 R7.o).2.1⟩,?_⟩
   clear HK K
   try simp only [Act.put,lzD,lzE,lzF]
   refine bO 8 (by kernel_rfl) rfl ?_
   intro K HK
   try simp only [lzA,lzB,lzC]
   go_simp
   refine HK.o _ _ ⟨fun h=>absurd rfl h,?_⟩
   clear HK K
   try simp only [Act.put,lzA,lzB,lzC,lzD,lzE,lzF]
   refine but_done (by kernel_rfl) ?_
   go_wp2
   go_meet
   case rel=>exact⟨HO7.o,G7.o,R7.o⟩
  ·intro K HK
   try simp only [lzA,lzB,lzC]
   go_simp
   go_at_call 166
   refine(ref_number _ HI1.o).mono ?_
   rintro e wn ⟨vn,rfl,hon,hbn⟩
   have HON:=η hon
   have RN:=η (row_grow (row_grow RA.o GD) hbn)
   have GN:=η hbn
   have GWN:Grow wa wn:=Grow.trans GD hbn
   clear hon hbn
   refine HK.o _ _ ⟨fun _=>⟨(cells4 RN.o).1,(cells4 RN.o).2.1⟩,?_⟩
   clear HK K
   try simp only [Act.put,lzA,lzB,lzC,lzD,lzE,lzF]
   refine bO 3 (by kernel_rfl) rfl ?_
   intro K HK
   try simp only [lzA,lzB,lzC]
   go_simp
   obtain⟨wl,hwl⟩:∃x:World,x=wn.alloc (.cells #[.int .u8 (IntKind.u8.wrap m.kind)] 5):=⟨_,rfl⟩
   have HL3:=η (litB (base:=w.heap.size+1) (k:=IntKind.u8.wrap m.kind) HKB.o (by have:=ZA.o;have:=GWN.size;omega) hwl)
   have GL:Grow wn wl:=by rw [hwl];exact(Grow.refl _).alloc _
   have RL:=η (row_grow RN.o GL)
   have GWL:Grow wa wl:=Grow.trans GWN GL
   rw [←hwl]
   clear hwl
   refine HK.o _ _ ⟨fun _=>⟨(cells4 RL.o).1,(cells4 RL.o).2.1⟩,?_⟩
   clear HK K
   try simp only [Act.put,lzA,lzB,lzC,lzD,lzE,lzF]
   refine bO 7 (by kernel_rfl) rfl ?_
   intro K HK
   refine wanted_go rfl ?_
   try simp only [lzA,lzB,lzC]
   refine appR (.tmp 10) (.tmp 13) rfl rfl HL3.o (by have:=ZA.o;have:=GWL.size;omega) rfl (OwnB.grow HON.o GL) (by have:=HN1.o;simp;omega) ?_
   intro v7 w7 ho7 hm7
   have HO7:=η ho7
   have R7:=η (hm7.row RL.o (fun q hq=>by have:=(OwnB.low HL3.o (Nat.le_refl _)).lt q hq;omega))
   have G7:=η (hm7.all (GA.o.trans GWL) (fun q hq=>by have:=World.ownsRow.lt HL3.o q hq;omega))
   clear ho7 hm7
   refine HK.o _ _ ⟨fun _=>⟨(cells4 R7.o).1,(cells4 R7.o).2.1⟩,?_⟩
   clear HK K
   try simp only [Act.put,lzD,lzE,lzF]
   refine bO 8 (by kernel_rfl) rfl ?_
   intro K HK
   try simp only [lzA,lzB,lzC]
   go_simp
   refine HK.o _ _ ⟨fun h=>absurd rfl h,?_⟩
   clear HK K
   try simp only [Act.put,lzA,lzB,lzC,lzD,lzE,lzF]
   refine but_done (by kernel_rfl) ?_
   go_wp2
   go_meet
   case rel=>exact⟨HO7.o,G7.o,R7.o⟩
 case rest=>
  obtain⟨ho,hg,hr⟩:=hcut
  obtain⟨a1,k1,rfl⟩:=owns_form ho
  have HO:=η ho
  have HG:=η hg
  have HR:=η hr
  have HLP:Hid (([UInt8.ofNat m.kind.toNat]++numB m.deed).length≤11):=η (by have:=HN1.o;simp;omega)
  clear ho hg hr RA GA ZA HKB HN1 HI1
  generalize [UInt8.ofNat m.kind.toNat]++numB m.deed=pre at*
  have HZC:Hid (w.heap.size<wc.heap.size):=η (γ HR.o)
  go_upto_region 2 with fail
  have HNE:Hid (∀q:Nat,True):=η (fun _=>trivial)
  refine but_start (fun w'=>w'.cell? ⟨w.heap.size,2,none⟩=some (.int .i64 m.house)∧w'.cell? ⟨w.heap.size,3,none⟩=some (.slice ap m.parts.length cp)) 10 (by kernel_rfl) ?_
  obtain⟨wd,hWd⟩:∃x:World,x=wc.drew:=⟨_,rfl⟩
  rw [←hWd]
  have GD:Grow wc wd:=by rw [hWd];exact(Grow.refl _).drew
  have zD:wc.heap.size=wd.heap.size:=by rw [hWd];rfl
  have ZD:=η zD
  clear hWd zD
  refine bLm [0] 14 (by kernel_rfl) (fun _ _ _ _ _ h=>h) (⟨(cells4 (row_grow HR.o GD)).2.2.1,(cells4 (row_grow HR.o GD)).2.2.2⟩) ?_
  repeat (refine tNm (v:=?_) rfl (by rfl) ?_ ?_;rotate_left;(· (intro w' hSw;(try dsimp only at hSw);obtain⟨hs0,hs1⟩:=hSw;go_simp<;>with_reducible rfl));try simp only [Act.put,lzA,lzC,lzD,lzE,lzF])
  refine tEm ?_
  refine bLm [1,2,5,6,7] 14 (by kernel_rfl) (fun _ _ _ _ _ h=>h) (⟨(cells4 (row_grow HR.o GD)).2.2.1,(cells4 (row_grow HR.o GD)).2.2.2⟩) ?_
  repeat (refine tNm (v:=?_) rfl (by rfl) ?_ ?_;rotate_left;(· (intro w' hSw;(try dsimp only at hSw);obtain⟨hs0,hs1⟩:=hSw;go_simp<;>with_reducible rfl));try simp only [Act.put,lzA,lzB,lzC,lzD,lzE,lzF])
  refine tEm ?_
  refine bO 3 (by kernel_rfl) rfl ?_
  intro K HK
  try simp only [lzA,lzB,lzC]
  go_simp
  go_at_call 166
  refine(ref_number _ HI2.o).mono ?_
  rintro e w3 ⟨v3,rfl,ho3,hb3⟩
  have HO3:=η ho3
  have R3:=η (row_grow (row_grow HR.o GD) hb3)
  have GG3:=Grow.trans (Grow.trans HG.o GD) hb3
  have HP3:=η (OwnB.grow (OwnB.grow HO.o GD) hb3)
  clear ho3 hb3
  refine HK.o _ _ ⟨fun _=>⟨(cells4 R3.o).2.2.1,(cells4 R3.o).2.2.2⟩,?_⟩
  clear HK K
  try simp only [Act.put,lzA,lzB,lzC,lzD,lzE,lzF]
  refine bO 4 (by kernel_rfl) rfl ?_
  intro K HK
  refine wanted_go rfl ?_
  try simp only [lzA,lzB,lzC]
  refine appR (.tmp 15) (.tmp 18) rfl rfl HP3.o (γ R3.o) rfl HO3.o (by have:=HLP.o;have:=HN2.o;omega) ?_
  intro v4 w4 ho4 hm4
  obtain⟨a4,k4,rfl⟩:=owns_form ho4
  have HO4:=η ho4
  have R4:=η (hm4.row R3.o (fun q hq=>by have:=World.ownsRow.lt HP3.o q hq;have:=HNE.o q;omega))
  have GG4:=hm4.all GG3 (fun q hq=>by have:=World.ownsRow.lt HP3.o q hq;omega)
  clear ho4 hm4
  have HL4:Hid ((pre++numB m.house).length≤21):=η (by have:=HLP.o;have:=HN2.o;rw [List.length_append];omega)
  generalize pre++numB m.house=pre4 at*
  refine HK.o _ _ ⟨fun _=>⟨(cells4 R4.o).2.2.1,(cells4 R4.o).2.2.2⟩,?_⟩
  clear HK K
  try simp only [Act.put,lzD,lzE,lzF]
  refine bO 8 (by kernel_rfl) rfl ?_
  intro K HK
  try simp only [lzA,lzB,lzC]
  go_simp
  go_at_call 166
  refine(ref_number _ HI3.o).mono ?_
  rintro e w8 ⟨v8,rfl,ho8,hb8⟩
  have HO8:=η ho8
  have R8:=η (row_grow R4.o hb8)
  have GG8:=Grow.trans GG4 hb8
  have HP8:=η (OwnB.grow HO4.o hb8)
  clear ho8 hb8
  refine HK.o _ _ ⟨fun _=>⟨(cells4 R8.o).2.2.1,(cells4 R8.o).2.2.2⟩,?_⟩
  clear HK K
  try simp only [Act.put,lzA,lzB,lzC,lzD,lzE,lzF]
  refine bO 9 (by kernel_rfl) rfl ?_
  intro K HK
  refine wanted_go rfl ?_
  try simp only [lzA,lzB,lzC]
  refine appR (.tmp 19) (.tmp 23) rfl rfl HP8.o (γ R8.o) rfl HO8.o (by have:=HL4.o;have:=HN3.o;omega) ?_
  intro v9 w9 ho9 hm9
  obtain⟨a9,k9,rfl⟩:=owns_form ho9
  have HO9:=η ho9
  have R9:=η (hm9.row R8.o (fun q hq=>by have:=World.ownsRow.lt HP8.o q hq;have:=HNE.o q;omega))
  have GG9:=hm9.all GG8 (fun q hq=>by have:=World.ownsRow.lt HP8.o q hq;omega)
  clear ho9 hm9
  have HL0:Hid ((pre4++numB (m.parts.length:Int)).length≤31):=η (by have:=HL4.o;have:=HN3.o;rw [List.length_append];omega)
  generalize pre4++numB (m.parts.length:Int)=b0 at*
  refine HK.o _ _ ⟨fun _=>⟨(cells4 R9.o).2.2.1,(cells4 R9.o).2.2.2⟩,?_⟩
  clear HK K
  try simp only [Act.put,lzD,lzE,lzF]
  refine bO 10 (by kernel_rfl) rfl ?_
  intro K HK
  try simp only [lzA,lzB,lzC]
  go_simp
  refine HK.o _ _ ⟨fun h=>absurd rfl h,?_⟩
  clear HK K
  try simp only [Act.put,lzA,lzB,lzC,lzD,lzE,lzF]
  refine but_done (by kernel_rfl) ?_
  have HB0:=η GG9
  obtain⟨ap',cp',he,h1,h2,-,hel⟩:=HEL.o
  obtain⟨rfl,rfl⟩:ap=ap'∧cp=cp':=by simpa using he
  unfold maxLen at h2
  have HO0:=η HO9.o
  have HR0:=η R9.o
  obtain⟨c0,c1,c2,c3⟩:=cells4 HR0.o
  have z0:w.heap.size<w9.heap.size:=(γ HR0.o)
  clear he HNE
  go_wp2
  go_loopw [3,28] (fun bv i wr=>∃k:Nat,k≤m.parts.length∧i=.int .i64 k∧Grow w wr∧w.heap.size<wr.heap.size∧OwnB wr (w.heap.size+1) bv (b0++(m.parts.take k).flatMap partBytes)) (fun _ i _=>m.parts.length - (intOf i).toNat)
  case atStart=>exact⟨0,by omega,rfl,HB0.o,z0,by simpa using HO0.o⟩
  case round=>
   obtain⟨k,hk',rfl,hb,hz,hown⟩:=hrel
   obtain⟨a2,k2,rfl⟩:=owns_form hown
   by_cases hlt:k<m.parts.length
   ·obtain⟨b,o,rfl,d0,d1,d2,-,i1,i2⟩:=Pts.at_ hel k hlt
    replace d0:=hb.sub _ _ d0
    replace d1:=hb.sub _ _ d1
    replace d2:=hb.sub _ _ d2
    have HN:=η (show b0++(m.parts.take (k+1)).flatMap partBytes=(b0++(m.parts.take k).flatMap partBytes++numB m.parts[k].k)++numB m.parts[k].n by
     rw [flat_snoc partBytes hlt]
     simp [partBytes])
    have hlk:(m.parts.take k).length≤4:=by rw [List.length_take];omega
    have hln:(b0++(m.parts.take k).flatMap partBytes).length≤131:=by
     have:=HPL.o k
     have:=HL0.o
     rw [List.length_append];omega
    have HLN:=η hln
    have HJ1:=η i1
    have HJ2:=η i2
    have HNK:=η (numB_len (i64_bounds i1).1 (i64_bounds i1).2)
    have HNN:=η (numB_len (i64_bounds i2).1 (i64_bounds i2).2)
    have HOW:=η hown
    have HB:=η hb
    have HZ:=η hz
    clear hel i1 i2 hlk hln hown hb c0 c1 c2 c3 HL0 HO0
    generalize b0++(m.parts.take k).flatMap partBytes=pr at*
    generalize m.parts[k]=p at*
    obtain⟨ph,pk,pn⟩:=p
    simp only at d0 d1 d2 HJ1 HJ2 HN HNK HNN
    have HNE:Hid (∀q,(Value.slice a2 pr.length k2).ownBlock=some q→q<wr.heap.size):=η (fun q hq=>(World.ownsRow.lt HOW.o q hq).2)
    have RP:=η (row_new wr (.cells #[.int .i64 ph,.int .i64 pk,.int .i64 pn] 32))
    have HOA:=η (HOW.o.grow ((Grow.refl wr).alloc (.cells #[.int .i64 ph,.int .i64 pk,.int .i64 pn] 32)))
    have HGA:Hid (Grow w (wr.alloc (.cells #[.int .i64 ph,.int .i64 pk,.int .i64 pn] 32))):=η (HB.o.alloc _)
    go_upto_region 6 with fail
    obtain⟨wa,hwa⟩:∃x:World,x=wr.alloc (.cells #[.int .i64 ph,.int .i64 pk,.int .i64 pn] 32):=⟨_,rfl⟩
    rw [←hwa] at RP HOA HGA ⊢
    have HZA:Hid (wa.heap.size=wr.heap.size+1):=η (by rw [hwa];simp)
    clear hwa
    refine but_start (fun w'=>w'.cell? ⟨wr.heap.size,1,none⟩=some (.int .i64 pk)∧w'.cell? ⟨wr.heap.size,2,none⟩=some (.int .i64 pn)) 9 (by kernel_rfl) ?_
    obtain⟨wd,hWd⟩:∃x:World,x=wa.drew:=⟨_,rfl⟩
    rw [←hWd]
    have GD:Grow wa wd:=by rw [hWd];exact(Grow.refl _).drew
    have zD:wa.heap.size=wd.heap.size:=by rw [hWd];rfl
    have ZD:=η zD
    clear hWd zD
    refine bLm [0] 13 (by kernel_rfl) (fun _ _ _ _ _ h=>h) (⟨(cells3 (row_grow RP.o GD)).2.1,(cells3 (row_grow RP.o GD)).2.2⟩) ?_
    repeat (refine tNm (v:=?_) rfl (by rfl) ?_ ?_;rotate_left;(· (intro w' hSw;(try dsimp only at hSw);obtain⟨hs0,hs1⟩:=hSw;go_simp<;>with_reducible rfl));try simp only [Act.put,lzA,lzC,lzD,lzE,lzF])
    refine tEm ?_
    refine bLm [1,2,5,6] 13 (by kernel_rfl) (fun _ _ _ _ _ h=>h) (⟨(cells3 (row_grow RP.o GD)).2.1,(cells3 (row_grow RP.o GD)).2.2⟩) ?_
    repeat (refine tNm (v:=?_) rfl (by rfl) ?_ ?_;rotate_left;(· (intro w' hSw;(try dsimp only at hSw);obtain⟨hs0,hs1⟩:=hSw;go_simp<;>with_reducible rfl));try simp only [Act.put,lzA,lzB,lzC,lzD,lzE,lzF])
    refine tEm ?_
    refine bO 3 (by kernel_rfl) rfl ?_
    intro K HK
    try simp only [lzA,lzB,lzC]
    go_simp
    go_at_call 166
    refine(ref_number _ HJ1.o).mono ?_
    rintro e w3 ⟨v3,rfl,ho3,hb3⟩
    have HO3:=η ho3
    have R3:=η (row_grow (row_grow RP.o GD) hb3)
    have GG3:=Grow.trans (Grow.trans HGA.o GD) hb3
    have HP3:=η (OwnB.grow (OwnB.grow HOA.o GD) hb3)
    clear ho3 hb3
    refine HK.o _ _ ⟨fun _=>⟨(cells3 R3.o).2.1,(cells3 R3.o).2.2⟩,?_⟩
    clear HK K
    try simp only [Act.put,lzA,lzB,lzC,lzD,lzE,lzF]
    refine bO 4 (by kernel_rfl) rfl ?_
    intro K HK
    refine wanted_go rfl ?_
    try simp only [lzA,lzB,lzC]
    refine appR (.tmp 32) (.tmp 35) rfl rfl HP3.o (by have:=(γ R3.o);have:=HZ.o;omega) rfl HO3.o (by have:=HLN.o;have:=HNK.o;omega) ?_
    intro v4 w4 ho4 hm4
    obtain⟨a4,k4,rfl⟩:=owns_form ho4
    have HO4:=η ho4
    have R4:=η (hm4.row R3.o (fun q hq=>by have:=HNE.o q hq;omega))
    have GG4:=hm4.all GG3 (fun q hq=>by have:=World.ownsRow.lt HP3.o q hq;omega)
    have HNE4:Hid (∀q,(Value.slice a4 (pr++numB pk).length k4).ownBlock=some q→q≠wr.heap.size):=η (fun q hq=>by
     have hz2:=(γ R3.o)
     rcases hm4.2 with e|⟨g,e,hg⟩
     ·rw [e] at hq;have:=HNE.o q hq;omega
     ·rw [e] at hq;obtain rfl:=Option.some.inj hq;omega)
    clear ho4 hm4
    have HL4:Hid ((pr++numB pk).length≤141):=η (by have:=HLN.o;have:=HNK.o;rw [List.length_append];omega)
    generalize pr++numB pk=pr4 at*
    refine HK.o _ _ ⟨fun _=>⟨(cells3 R4.o).2.1,(cells3 R4.o).2.2⟩,?_⟩
    clear HK K
    try simp only [Act.put,lzD,lzE,lzF]
    refine bO 7 (by kernel_rfl) rfl ?_
    intro K HK
    try simp only [lzA,lzB,lzC]
    go_simp
    go_at_call 166
    refine(ref_number _ HJ2.o).mono ?_
    rintro e w7 ⟨v7,rfl,ho7,hb7⟩
    have HO7:=η ho7
    have R7:=η (row_grow R4.o hb7)
    have GG7:=Grow.trans GG4 hb7
    have HP7:=η (OwnB.grow HO4.o hb7)
    clear ho7 hb7
    refine HK.o _ _ ⟨fun _=>⟨(cells3 R7.o).2.1,(cells3 R7.o).2.2⟩,?_⟩
    clear HK K
    try simp only [Act.put,lzA,lzB,lzC,lzD,lzE,lzF]
    refine bO 8 (by kernel_rfl) rfl ?_
    intro K HK
    refine wanted_go rfl ?_
    try simp only [lzA,lzB,lzC]
    refine appR (.tmp 36) (.tmp 39) rfl rfl HP7.o (by have:=(γ R7.o);have:=HZ.o;omega) rfl HO7.o (by have:=HL4.o;have:=HNN.o;omega) ?_
    intro v8 w8 ho8 hm8
    obtain⟨a8,k8,rfl⟩:=owns_form ho8
    have HO8:=η ho8
    have R8:=η (hm8.row R7.o (fun q hq=>by have:=HNE4.o q hq;omega))
    have GG8:=hm8.all GG7 (fun q hq=>by have:=World.ownsRow.lt HP7.o q hq;omega)
    clear ho8 hm8
    generalize pr4++numB pn=pr8 at*
    refine HK.o _ _ ⟨fun _=>⟨(cells3 R8.o).2.1,(cells3 R8.o).2.2⟩,?_⟩
    clear HK K
    try simp only [Act.put,lzD,lzE,lzF]
    refine bO 9 (by kernel_rfl) rfl ?_
    intro K HK
    try simp only [lzA,lzB,lzC]
    go_simp
    refine HK.o _ _ ⟨fun h=>absurd rfl h,?_⟩
    clear HK K
    try simp only [Act.put,lzA,lzB,lzC,lzD,lzE,lzF]
    refine but_done (by kernel_rfl) ?_
    go_wp2
    go_roundw
    case rel=>exact⟨k+1,by omega,by go_num,GG8,by have:=HZ.o;have:=(γ R8.o);omega,by rw [HN.o];exact HO8.o⟩
    case measure=>simp [intOf];omega
   ·rw [List.take_of_length_le (by omega),HM.o] at hown ⊢
    have HOW:=η hown
    have HB:=η hb
    have HZ:=η hz
    have HLH:Hid ((msgHead m).length≤111):=η (by
     rw [←HM.o,List.length_append]
     have:=HPL.o m.parts.length
     rw [List.take_of_length_le (Nat.le_refl _)] at this
     have:=HL0.o
     omega)
    obtain⟨z1,hz1⟩:∃z,z=UInt8.ofNat (sumB (msgHead m)/256):=⟨_,rfl⟩
    obtain⟨z2,hz2⟩:∃z,z=UInt8.ofNat (sumB (msgHead m)):=⟨_,rfl⟩
    have hs1:=sumB_lt (msgHead m)
    have HS1:Hid ((sumB (msgHead m):Int)/256=(z1.toNat:Int)):=η (by rw [hz1,byte_wrap];omega)
    have HS2:Hid ((sumB (msgHead m):Int) % 256=(z2.toNat:Int)):=η (by rw [hz2,byte_wrap];omega)
    have HBM:Hid (msgHead m++ [z1,z2]=bytesM m):=η (by rw [hz1,hz2];rfl)
    have HSUM:=η (fun(W:World) (hW:Grow wr W)=>ref_sum W ((HOW.o.grow hW).bts))
    clear hel hown hb hz hz1 hz2 c0 c1 c2 c3 HL0 HO0
    generalize sumB (msgHead m)=s at*
    generalize msgHead m=hd at*
    go_wp2_with fail
    refine(HSUM.o _ (Grow.refl _)).mono ?_
    rintro e w7 ⟨rfl,hb7⟩
    have HO7:=η (HOW.o.grow hb7)
    have HB7:=η (HB.o.trans hb7)
    have hsz7:w.heap.size+1≤w7.heap.size:=by have:=hb7.size;have:=HZ.o;omega
    clear hb7
    go_wp2_with (at_builtin;refine appB rfl _ _ rfl rfl HO7.o hsz7 rfl rfl [z1,z2] ?e0 rfl ?e1 ?_)
    case e0=>exact two_bytes (by first|exact HS1.o|(rw [←HS1.o];omega)) (by first|exact HS2.o|(rw [←HS2.o];omega))
    case e1=>have:=HLH.o;simp;omega
    intro v9 w9 ho9 hm9
    have HO9:=η (OwnB.low (base':=w.heap.size) ho9 (by omega))
    have HB9:=η (hm9.all HB7.o (fun q hq=>by have:=World.ownsRow.lt HO7.o q hq;omega))
    clear ho9 hm9
    go_wp2
    go_ret
    exact⟨_,rfl,by rw [←HBM.o];exact HO9.o,HB9.o⟩
theorem sendB_full {l:List (List UInt8)} {ms:List Ms} {k:Nat} (h:24≤(sendB l (ms.take k)).length):sendB l ms=sendB l (ms.take k):=by
 rw [sendB_len,List.length_take] at h
 unfold sendB
 rw [List.take_take]
 by_cases hk:24 - l.length≤k
 ·rw [Nat.min_eq_left hk]
 ·have:ms.length≤k:=by omega
  rw [List.take_of_length_le (i:=24 - l.length) (by omega),List.take_of_length_le (by omega)]
theorem note_log (h:Hs) (r:Rc):(noteE h r).log=h.log++ [r]:=log_house _
theorem headR_fold:∀(l:List Rc) (h:Hd) (x:List Rc),(l.foldl headStep { h with log:=x })={ (l.foldl headStep h) with log:=x }
 | [],_,_=>rfl
 |r::l,h,x=>by
  rw [List.foldl_cons,List.foldl_cons,←headR_fold l]
  congr 1
  unfold headStep
  split
  ·rfl
  ·split
   ·rfl
   ·split<;>rfl
theorem head_snoc (l:List Rc) (r:Rc):headR (l++ [r])={ (headStep (headR l) r) with log:=l++ [r] }:=by
 unfold headR
 rw [List.foldl_append]
 have:=headR_fold l ⟨l,0,0,[]⟩ (l++ [r])
 simp only at this
 rw [this]
 show headStep _ r=_
 unfold headStep
 split
 ·rfl
 ·split
  ·rfl
  ·split<;>rfl
theorem headR_next (l:List Rc):(headR l).next=0∧(headR l).log=l:=by
 have:∀(k:List Rc) (h:Hd),(k.foldl headStep h).next=h.next∧(k.foldl headStep h).log=h.log:=by
  intro k
  induction k with
  |nil=>intro h;exact⟨rfl,rfl⟩
  |cons r k ih=>
   intro h
   rw [List.foldl_cons,(ih _).1,(ih _).2]
   unfold headStep
   split
   ·exact⟨rfl,rfl⟩
   ·split
    ·exact⟨rfl,rfl⟩
    ·split<;>exact⟨rfl,rfl⟩
 exact this l _
theorem dec_snoc (l:List Rc) (r:Rc):decidedR (l++ [r])=if r.kind=5 then decidedR l++ [⟨r.deed,r.parts⟩] else decidedR l:=by
 unfold decidedR
 rw [List.filter_append,List.map_append]
 split
 ·rename_i h
  rw [List.filter_cons_of_pos (by simp [h])];rfl
 ·rename_i h
  rw [List.filter_cons_of_neg (by simp [h])];simp
theorem dec_len (l:List Rc):(decidedR l).length≤l.length:=by
 unfold decidedR
 rw [List.length_map]
 exact List.length_filter_le _ _
set_option maxRecDepth 100000 in
set_option maxHeartbeats 2000000 in
theorem wlog_decided {v:Value} {l:List Rc} (w:World) (hv:Rcs w.cell? v l) (hm:l.length*40≤140737488355328) (hp:∀r∈l,r.parts.length*24≤140737488355328):
  Calls Try.prog 45 #[v] w fun e w'=>∃v',e=.returned v'∧OwnC Ty.rd (fr w w' [v'.ownBlock]) w' w.heap.size 45 v' (decidedR l)∧Grow w w':=by
 obtain⟨a,cap,rfl,h1,h2,-,hel⟩:=hv
 unfold maxLen at h2
 have HM:=η hm
 have HP:=η hp
 clear hm hp
 go_enter Try.func45,Try.ntmps45
 go_wp2
 go_loopw [3,8] (fun s3 i wr=>∃k:Nat,k≤l.length∧i=.int .i64 k∧Grow w wr∧OwnC Ty.rd (fr w wr [s3.ownBlock]) wr w.heap.size 45 s3 (decidedR (l.take k))) (fun _ i _=>l.length - (intOf i).toNat)
 case atStart=>exact⟨0,by omega,rfl,Grow.refl _,OwnC.nil _ _ _ _ _⟩
 case round=>
  obtain⟨k,hk',rfl,hb,hown⟩:=hrel
  by_cases hlt:k<l.length
  ·obtain⟨b,o,vp,rfl,c0,c1,c2,i0,i1,hP⟩:=Rcs.at_ hel k hlt
   obtain⟨ap,cp,rfl,-⟩:=id hP
   replace c0:=hb.sub _ _ c0
   replace c1:=hb.sub _ _ c1
   replace c2:=hb.sub _ _ c2
   have htk:decidedR (l.take (k+1))=if l[k].kind=5 then decidedR (l.take k)++ [⟨l[k].deed,l[k].parts⟩] else decidedR (l.take k):=by rw [List.take_succ_eq_append_getElem hlt,dec_snoc]
   have HTK:=η htk
   have hpl:=HP.o l[k] (List.getElem_mem _)
   have hok:=Pts.ok (c:=w.cell?) hP
   have HCL:=η (fun(W:World) (hW:Grow wr W)=>clone_pt W (hP.mono (hb.trans hW).sub) hpl)
   have hlk:(decidedR (l.take k)).length≤l.length:=Nat.le_trans (dec_len _) (by simp;omega)
   have HOWN:=η hown
   have HI:=η (And.intro i0 (And.intro i1 hok))
   obtain⟨av,cv,rfl⟩:=hown.form
   have HLK:=η hlk
   clear hel hP htk hpl hok hown i0 i1 hlk
   generalize l[k]=r at*
   generalize decidedR (l.take k)=ds at*
   by_cases h5:r.kind=5
   ·have b5:(r.kind==5)=true:=by simp [h5]
    have HK5:=η h5
    clear h5
    go_wp2
    obtain⟨w2,hWE⟩:∃x:World,x=wr.alloc (.cells #[.int .i64 r.kind,.int .i64 r.deed,.slice ap r.parts.length cp] 48):=⟨_,rfl⟩
    rw [←hWE]
    have HG2:Hid (Grow wr w2):=η (by rw [hWE];exact(Grow.refl wr).alloc _)
    have r5:w2.heap[wr.heap.size]? =some (.cells #[.int .i64 r.kind,.int .i64 r.deed,.slice ap r.parts.length cp] 48 (0,0)):=by rw [hWE];exact row_new _ _
    clear hWE
    obtain⟨-,q1,q2⟩:=cells3 r5
    have l5:wr.heap.size<w2.heap.size:=(γ r5)
    have n5:(Value.slice av ds.length cv).ownBlock≠some wr.heap.size:=fun e=>by have:=(HOWN.o.lt _ e).2;omega
    have HS:Hid (∀W,w2.grownBy W (Value.slice av ds.length cv).ownBlock→W.cell? ⟨wr.heap.size,1,none⟩=some (.int .i64 r.deed)∧W.cell? ⟨wr.heap.size,2,none⟩=some (.slice ap r.parts.length cp)):=fun W hW=>⟨by rw [World.cell?_of_block (hW.block wr.heap.size l5 (fun e=>n5 e.symm))];exact q1,by rw [World.cell?_of_block (hW.block wr.heap.size l5 (fun e=>n5 e.symm))];exact q2⟩
    clear q1 q2 r5
    refine but_start (fun w'=>w'.cell? ⟨wr.heap.size,1,none⟩=some (.int .i64 r.deed)∧w'.cell? ⟨wr.heap.size,2,none⟩=some (.slice ap r.parts.length cp)) 9 (by kernel_rfl) ?_
    obtain⟨wd,hWd⟩:∃x:World,x=w2.drew:=⟨_,rfl⟩
    rw [←hWd]
    have GD:Grow w2 wd:=by rw [hWd];exact(Grow.refl _).drew
    have zD:w2.heap.size=wd.heap.size:=by rw [hWd];rfl
    have ZD:=η zD
    clear hWd zD
    refine bLm [0] 8 (by kernel_rfl) (fun _ _ _ _ _ h=>h) (HS.o _ (grownBy_of_grow GD _)) ?_
    repeat (refine tNm (v:=?_) rfl (by rfl) ?_ ?_;rotate_left;(· (intro w' hSw;(try dsimp only at hSw);obtain⟨hs0,hs1⟩:=hSw;go_simp<;>with_reducible rfl));try simp only [Act.put,lzA,lzC,lzD,lzE,lzF])
    refine tEm ?_
    refine bLm [1,2,3,4] 8 (by kernel_rfl) (fun _ _ _ _ _ h=>h) (HS.o _ (grownBy_of_grow GD _)) ?_
    repeat (refine tNm (v:=?_) rfl (by rfl) ?_ ?_;rotate_left;(· (intro w' hSw;(try dsimp only at hSw);obtain⟨hs0,hs1⟩:=hSw;go_simp<;>with_reducible rfl));try simp only [Act.put,lzA,lzB,lzC,lzD,lzE,lzF])
    refine tEm ?_
    refine bO 5 (by kernel_rfl) rfl ?_
    intro K HK
    try simp only [lzA,lzB,lzC]
    go_simp
    go_at_call 122
    refine(HCL.o _ (HG2.o.trans GD)).mono ?_
    rintro e w3 ⟨v3,rfl,ho3,hb3⟩
    obtain⟨a3,c3,rfl⟩:=owns_form ho3
    have HO3:=η ho3
    have G3:=GD.trans hb3
    clear ho3 hb3
    refine HK.o _ _ ⟨fun _=>HS.o _ (grownBy_of_grow G3 _),?_⟩
    clear HK K
    try simp only [Act.put,lzA,lzB,lzC,lzD,lzE,lzF]
    refine bO 6 (by kernel_rfl) rfl ?_
    intro K HK
    try simp only [lzA,lzB,lzC]
    go_simp
    refine HK.o _ _ ⟨fun _=>HS.o _ (grownBy_of_grow G3 _),?_⟩
    clear HK K
    try simp only [Act.put,lzA,lzB,lzC,lzD,lzE,lzF]
    refine bO 7 (by kernel_rfl) rfl ?_
    intro K HK
    try simp only [lzA,lzB,lzC]
    go_simp
    refine HK.o _ _ ⟨fun _=>HS.o _ (grownBy_of_grow (G3.alloc _) _),?_⟩
    clear HK K
    try simp only [Act.put,lzA,lzB,lzC,lzD,lzE,lzF]
    refine bO 8 (by kernel_rfl) rfl ?_
    intro K HK
    refine wanted_go rfl ?_
    try simp only [lzA,lzB,lzC]
    have hR9:Ty.rd.R (fr w (w3.alloc (.cells #[.int .i64 r.deed,.slice a3 r.parts.length c3] 45)) [(Value.slice av ds.length cv).ownBlock]) (#[.int .i64 r.deed,.slice a3 r.parts.length c3]:Array Value).toList ⟨r.deed,r.parts⟩:=by
     refine⟨_,rfl,HI.o.2.1,pts_fr (w1:=wd) ((HO3.o).kept (grownBy_of_grow ((Grow.refl _).alloc _) none) (by cases (Value.slice a3 r.parts.length c3).ownBlock<;>simp)) HI.o.2.2 (by have:=hb.size;have:=HG2.o.size;have:=GD.size;omega) fun q hq=>?_⟩
     have z1:=HOWN.o.lt
     have z4:=HG2.o.size
     have z6:=GD.size
     simp only [List.mem_cons,List.not_mem_nil,or_false]
     exact fun e=>by have:=(z1 q e.symm).2;omega
    have HR9:=η hR9
    clear hR9
    refine wp_appc (c:=(fr w (w3.alloc (.cells #[.int .i64 r.deed,.slice a3 r.parts.length c3] 45)) [(Value.slice av ds.length cv).ownBlock])) (base:=w.heap.size) (l:=ds) (m:=[⟨r.deed,r.parts⟩]) ei_rd rfl one_Trd (by decide) (.tmp 15) (.tmp 22) rfl rfl ((HOWN.o.mono (fr_grow (HG2.o.trans (G3.alloc _)))).grow (HG2.o.trans (G3.alloc _))) rfl (Src.of_new (T:=Ty.rd) (cs:=#[.int .i64 r.deed,.slice a3 r.parts.length c3]) HR9.o _ _ rfl) (by have:=HM.o;have:=HLK.o;simp;omega) (by have:=hb.size;have:=HG2.o.size;have:=G3.size;(try simp);omega) ?_
    intro a9 c9 w9 ho9 hg9 hb9
    have HO9:=η (ho9.mono (fr_app hg9 (hb9.imp_right fun⟨g,e,hge⟩=>⟨g,e,by simpa using hge⟩)))
    have GB9:=η (grownBy_trans (grownBy_of_grow (G3.alloc _) _) hg9)
    have HG9:Hid (Grow w w9):=η (grow_by (w0:=w) (hb.trans (HG2.o.trans (G3.alloc _))) hg9 (fun q hq=>(HOWN.o.lt q hq).1))
    clear ho9 hg9 hb9
    refine HK.o _ _ ⟨fun _=>HS.o _ GB9.o,?_⟩
    clear HK K
    try simp only [Act.put,lzD,lzE,lzF]
    refine bO 9 (by kernel_rfl) rfl ?_
    intro K HK
    try simp only [lzA,lzB,lzC]
    go_simp
    refine HK.o _ _ ⟨fun h=>absurd rfl h,?_⟩
    clear HK K
    try simp only [Act.put,lzA,lzB,lzC,lzD,lzE,lzF]
    refine but_done (by kernel_rfl) ?_
    go_wp2
    go_roundw
    case rel=>exact⟨k+1,by omega,by go_num,HG9.o,by rw [HTK.o,if_pos HK5.o];exact HO9.o⟩
    case measure=>simp [intOf];omega
   ·have b5:(r.kind==5)=false:=by simp [h5]
    have HK5:=η h5
    clear h5
    go_wp2
    go_roundw
    case rel=>exact⟨k+1,by omega,by go_num,hb.alloc _,by rw [HTK.o,if_neg HK5.o];exact(HOWN.o.mono (fr_grow ((Grow.refl _).alloc _))).grow ((Grow.refl _).alloc _)⟩
    case measure=>simp [intOf];omega
  ·clear hel
   go_wp2
   go_ret
   have h9:=hown
   rw [List.take_of_length_le (by omega)] at h9
   exact⟨_,rfl,h9,hb⟩
set_option maxRecDepth 100000 in
set_option maxHeartbeats 2000000 in
theorem ref_decided {c:CM} {v:Value} {l:List Rc} (w:World) (hc:Sub c w.cell?) (hv:Rcs c v l) (hm:l.length*40≤140737488355328):
  Calls Try.prog 46 #[v] w fun e w'=>∃v',e=.returned v'∧OwnC Ty.rd c w' w.heap.size 45 v' (decidedR l)∧Grow w w':=by
 obtain⟨a,cap,rfl,h1,h2,-,hel⟩:=hv
 unfold maxLen at h2
 have HM:=η hm
 clear hm
 go_enter Try.func46,Try.ntmps46
 go_wp2
 go_loopw [3,8] (fun s3 i wr=>∃k:Nat,k≤l.length∧i=.int .i64 k∧Grow w wr∧OwnC Ty.rd c wr w.heap.size 45 s3 (decidedR (l.take k))) (fun _ i _=>l.length - (intOf i).toNat)
 case atStart=>exact⟨0,by omega,rfl,Grow.refl _,OwnC.nil _ _ _ _ _⟩
 case round=>
  obtain⟨k,hk',rfl,hb,hown⟩:=hrel
  by_cases hlt:k<l.length
  ·obtain⟨b,o,vp,rfl,c0,c1,c2,i0,i1,hP⟩:=Rcs.at_ hel k hlt
   obtain⟨ap,cp,rfl,-⟩:=id hP
   replace c0:=hb.sub _ _ (hc _ _ c0)
   replace c1:=hb.sub _ _ (hc _ _ c1)
   replace c2:=hb.sub _ _ (hc _ _ c2)
   have htk:decidedR (l.take (k+1))=if l[k].kind=5 then decidedR (l.take k)++ [⟨l[k].deed,l[k].parts⟩] else decidedR (l.take k):=by rw [List.take_succ_eq_append_getElem hlt,dec_snoc]
   have HTK:=η htk
   have hlk:(decidedR (l.take k)).length≤l.length:=Nat.le_trans (dec_len _) (by simp;omega)
   have HOWN:=η hown
   have HI:=η (And.intro i1 hP)
   obtain⟨av,cv,rfl⟩:=hown.form
   have HLK:=η hlk
   clear hel hP htk hown i0 i1 hlk
   generalize l[k]=r at*
   generalize decidedR (l.take k)=ds at*
   by_cases h5:r.kind=5
   ·have b5:(r.kind==5)=true:=by simp [h5]
    have HK5:=η h5
    clear h5
    go_wp2_with (first|(at_builtin;refine wpList_appc (c:=c) (base:=w.heap.size) (l:=ds) (m:=[⟨r.deed,r.parts⟩]) ei_rd rfl one_Trd (by decide) rfl (.tmp 15) (.tmp 21) rfl rfl ?own rfl (Src.of_new (T:=Ty.rd) (cs:=#[.int .i64 r.deed,.slice ap r.parts.length cp]) ⟨_,rfl,HI.o.1,HI.o.2⟩ _ _ ?d1) ?d2 ?d3 ?_))
    case own=>exact HOWN.o.grow (((Grow.refl _).alloc _).alloc _)
    case d1=>simp
    case d2=>have:=HM.o;have:=HLK.o;simp;omega
    case d3=>have:=hb.size;simp;omega
    intro a9 c9 w9 ho9 hg9 hb9
    have HG9:Hid (Grow w w9):=η (grow_by (w0:=w) ((hb.alloc _).alloc _) hg9 (fun q hq=>(HOWN.o.lt q hq).1))
    have HO9:=η ho9
    clear ho9 hg9 hb9
    go_wp2
    go_roundw
    case rel=>exact⟨k+1,by omega,by go_num,HG9.o,by rw [HTK.o,if_pos HK5.o];exact HO9.o⟩
    case measure=>simp [intOf];omega
   ·have b5:(r.kind==5)=false:=by simp [h5]
    have HK5:=η h5
    clear h5
    go_wp2
    go_roundw
    case rel=>exact⟨k+1,by omega,by go_num,hb.alloc _,by rw [HTK.o,if_neg HK5.o];exact HOWN.o.grow ((Grow.refl _).alloc _)⟩
    case measure=>simp [intOf];omega
  ·clear hel
   go_wp2
   go_ret
   have h9:=hown
   rw [List.take_of_length_le (by omega)] at h9
   exact⟨_,rfl,h9,hb⟩
set_option maxRecDepth 100000 in
set_option maxHeartbeats 1000000 in
theorem deleteFunc_opn_c {c:CM} {w:World} {base:Nat} {v:Value} {l:List Opn} {F:FuncId} {caps:Array Value} {p:Opn→Bool} (hc:Sub c (frag w v.ownBlock)) (ho:OwnC Ty.opn c w base 136 v l) (hp:TellsG Try.prog Ty.opn aggOf w v.ownBlock F caps l p):
  Calls Try.prog 124 #[v,.func (.func F) #[] caps] w fun e w'=>∃v',e=.returned v'∧OwnC Ty.opn c w' base 136 v' (l.filter fun x=>!p x)∧w.grownBy w' v.ownBlock∧v'.ownBlock=v.ownBlock:=by
 have hIdx:=indexFunc_opn w (OwnC.sl (by decide) (hc.trans (frag_sub _ _)) ho) hp.tells
 cases hfi:l.findIdx? p with
 |none=>
  have hx:idxOf p l= -1:=by rw [idxOf,hfi]
  have HF:=η (filter_none hfi)
  rw [hx] at hIdx
  have HI:=η hIdx
  have HO:=η ho
  clear hIdx hx hfi ho hp
  go_enter Try.func124,Try.ntmps124
  go_wp2_with (go_at_call 156;refine HI.o.mono ?_;rintro e w1 ⟨rfl,hb1⟩)
  go_ret
  exact⟨_,rfl,by rw [HF.o];exact HO.o.grow hb1,grownBy_of_grow hb1 _,rfl⟩
 |some k=>
  have hx:idxOf p l=k:=by rw [idxOf,hfi]
  rw [hx] at hIdx
  rw [List.findIdx?_eq_some_iff_getElem] at hfi
  obtain⟨hk,hpk,hbefore⟩:=hfi
  obtain⟨css,hown,hcl0,hR⟩:=ho
  have hcl:=css_len hcl0 hR
  obtain⟨hl,⟨rfl,hn⟩|⟨g,cap,cur,rfl,hb,hg,hnc,hcm,hcs,htake⟩⟩:=id hown
  ·omega
  have hbl:(Value.slice (some (⟨g,0,none⟩:Addr)) l.length cap).ownBlock=some g:=rfl
  rw [hbl] at hp hc ⊢
  have HCC:=η hc
  clear hc
  have hf0:(l.take (k+1)).filter (fun x=>!p x)=l.take k:=by
   rw [filter_take_succ _ hk,hpk]
   simp only [Bool.not_true,Bool.false_eq_true,if_false,List.append_nil]
   rw [List.filter_eq_self]
   intro x hx
   obtain⟨j,hj,rfl⟩:=List.mem_iff_getElem.1 hx
   have:=hbefore j (by simp at hj;omega)
   simpa using this
  have hkne:((k:Int)== -1)=false:=by rw [beq_eq_false_iff_ne];omega
  have hcm':cap≤9223372036854775807:=by unfold maxLen at hcm;omega
  have HI:=η hIdx
  have HO:=η hown
  have HR:=η hR
  have HP:=η hp.say
  have eg:=hp.ent
  have HF:=η hf0
  have HC:=η hcl
  have HC0:=η hcl0
  clear hIdx hown hR hp hf0 hcl hcl0 hl hg htake hcs hb hcm hbefore hpk hx
  go_enter Try.func124,Try.ntmps124
  go_wp2_with (go_at_call 156;refine HI.o.mono ?_;rintro e w1 ⟨rfl,hb1⟩)
  go_loopw [5,6,7] (fun si sj _ wr=>∃(i j:Nat) (css':List (List Value)),i<j∧j≤l.length∧si=.int .i64 i∧sj=.int .i64 j∧w.grownBy wr (some g)∧css'.length=l.length∧(∀cs∈css',cs.length=4)∧
    wr.ownsRow base 136 4 (.slice (some ⟨g,0,none⟩) l.length cap) l.length css'.flatten∧css'.drop j=css.drop j∧((l.take j).filter fun x=>!p x).length=i∧
    ∀(a:Nat) (cs:List Value) (x:Opn),a<i→css'[a]? =some cs→((l.take j).filter fun x=>!p x)[a]? =some x→Ty.opn.R c cs x) (fun _ sj _ _=>l.length - (intOf sj).toNat)
  case atStart=>
   refine⟨k,k+1,css,by omega,by omega,rfl,by go_num,grownBy_of_grow hb1 _,HC0.o,HC.o,HO.o.kept (grownBy_of_grow hb1 none) (by right;simp [Value.ownBlock]),rfl,by rw [HF.o];simp;omega,fun a cs x ha h1 h2=>?_⟩
   rw [HF.o,List.getElem?_take,if_pos ha] at h2
   exact HR.o a cs x h1 h2
  case round=>
   obtain⟨i,j,css',hij,hj',rfl,rfl,hgr,hl',hcs',hown',hdrop,hfl,hRi⟩:=hrel
   have HOWN:=η hown'
   have HCS:=η hcs'
   have HD:=η hdrop
   have HFL:=η hfl
   have HRI:=η hRi
   have HL':=η hl'
   have HGR:=η hgr
   clear hown' hcs' hdrop hfl hRi hl' hgr hb1
   by_cases hlt:j<l.length
   ·have hjc:css[j]? =some css[j]!:=by rw [List.getElem?_eq_getElem (by rw [HC0.o];exact hlt),getElem!_pos css j (by rw [HC0.o];exact hlt)]
    obtain⟨v1,v2,hcsj,hRR⟩:=HR.o j _ l[j] hjc (List.getElem?_eq_getElem hlt)
    obtain⟨sa1,sc1,rfl,-⟩:=id hRR.2.1;obtain⟨sa2,sc2,rfl,-⟩:=id hRR.2.2
    have hjc':css'[j]? =some css[j]!:=by
     have:(css'.drop j)[0]? =(css.drop j)[0]?:=by rw [HD.o]
     rw [List.getElem?_drop,List.getElem?_drop,Nat.add_zero,hjc] at this
     exact this
    rw [hcsj] at hjc hjc'
    have hcj:∀(t:Nat) (u:Value),([.int .i64 l[j].deed,.slice sa1 l[j].parts.length sc1,.bool l[j].dec,.slice sa2 l[j].heard.length sc2])[t]? =some u→t<4→wr.cell? ⟨g,j*4+t,none⟩=some u:=by
     intro t u hu ht
     rw [HOWN.o.cellAt _ (by omega),flatten_at (size:=4) (by decide) css' HCS.o,show(j*4+t)/4=j by omega,show(j*4+t) % 4=t by omega,hjc']
     exact hu
    have hci:∀(t:Nat),t<4→∃u,wr.cell? ⟨g,i*4+t,none⟩=some u:=by
     intro t ht
     exact⟨_,by rw [HOWN.o.cellAt _ (by omega)];exact List.getElem?_eq_getElem (by rw [HOWN.o.1];omega)⟩
    have hfz:∀o,wr.frozen? ⟨g,o,none⟩=false:=HOWN.o.frozenAt
    have hgl:g<wr.heap.size:=(HOWN.o.lt g rfl).2
    have c0:wr.cell? ⟨g,j*4,none⟩=some (.int .i64 l[j].deed):=hcj 0 _ rfl (by decide)
    have c1:wr.cell? ⟨g,j*4+1,none⟩=some (.slice sa1 l[j].parts.length sc1):=hcj 1 _ rfl (by decide)
    have c2:wr.cell? ⟨g,j*4+2,none⟩=some (.bool l[j].dec):=hcj 2 _ rfl (by decide)
    have c3:wr.cell? ⟨g,j*4+3,none⟩=some (.slice sa2 l[j].heard.length sc2):=hcj 3 _ rfl (by decide)
    obtain⟨u0,hu0⟩:∃u,wr.cell? ⟨g,i*4,none⟩=some u:=hci 0 (by decide)
    obtain⟨u1,hu1⟩:∃u,wr.cell? ⟨g,i*4+1,none⟩=some u:=hci 1 (by decide)
    obtain⟨u2,hu2⟩:∃u,wr.cell? ⟨g,i*4+2,none⟩=some u:=hci 2 (by decide)
    obtain⟨u3,hu3⟩:∃u,wr.cell? ⟨g,i*4+3,none⟩=some u:=hci 3 (by decide)
    have hRw:Ty.opn.R c [.int .i64 l[j].deed,.slice sa1 l[j].parts.length sc1,.bool l[j].dec,.slice sa2 l[j].heard.length sc2] l[j]:=⟨_,_,rfl,hRR⟩
    have hsay:=fun(W:World) (hW:Grow wr W)=>HP.o W _ l[j] (grownBy_trans HGR.o (grownBy_of_grow hW _)) (List.getElem_mem _) (Ty.opn.mono (Sub.trans HCC.o (Sub.trans (frag_grown (grownBy_trans HGR.o (grownBy_of_grow hW _))) (frag_sub _ _))) hRw)
    have hstep:=filter_take_succ (fun x=>!p x) hlt
    have HS:=η hsay
    have HST:=η hstep
    have HRW:=η hRw
    clear hsay hstep hcj hci hRw hRR hjc hjc' hcsj
    simp only [aggOf] at HS
    cases hq:p l[j]
    ·rw [hq] at HS HST
     generalize l[j]=q at*
     go_wp2_with (go_at_fn F;refine(HS.o _ ((Grow.refl wr).alloc _)).mono ?_;rintro e w1 ⟨rfl,hb1⟩;have e0:=hb1.sub ⟨wr.heap.size,0,none⟩ _ (World.cell?_alloc_new wr _ _ 0);have e1:=hb1.sub ⟨wr.heap.size,1,none⟩ _ (World.cell?_alloc_new wr _ _ 1);have e2:=hb1.sub ⟨wr.heap.size,2,none⟩ _ (World.cell?_alloc_new wr _ _ 2);have e3:=hb1.sub ⟨wr.heap.size,3,none⟩ _ (World.cell?_alloc_new wr _ _ 3);simp at e0 e1 e2 e3;have d0:=(((Grow.refl wr).alloc _).trans hb1).sub _ _ hu0;have d1:=(((Grow.refl wr).alloc _).trans hb1).sub _ _ hu1;have d2:=(((Grow.refl wr).alloc _).trans hb1).sub _ _ hu2;have d3:=(((Grow.refl wr).alloc _).trans hb1).sub _ _ hu3;have df:∀o,w1.frozen? ⟨g,o,none⟩=false:=fun o=>((((Grow.refl wr).alloc _).trans hb1).frozen (p:=⟨g,o,none⟩) hgl).trans (hfz o);have dz:=hb1.size;have HB1:=η hb1;clear hb1)
     obtain⟨hset,hsg⟩:=owns_set (cs:=[.int .i64 q.deed,.slice sa1 q.parts.length sc1,.bool q.dec,.slice sa2 q.heard.length sc2]) (i:=i) HCS.o (HOWN.o.kept (grownBy_of_grow (((Grow.refl wr).alloc _).trans HB1.o) none) (by right;simp [Value.ownBlock])) (by rw [HL'.o];omega) rfl
     have HSET:=η hset
     have HSG:=η hsg
     clear hset hsg
     go_roundw
     case rel=>
      refine⟨i+1,j+1,css'.set i [.int .i64 q.deed,.slice sa1 q.parts.length sc1,.bool q.dec,.slice sa2 q.heard.length sc2],by omega,by omega,by go_num,by go_num,grownBy_trans (grownBy_trans HGR.o (grownBy_of_grow (((Grow.refl wr).alloc _).trans HB1.o) _)) HSG.o,by simpa using HL'.o,?_,HSET.o,?_,?_,?_⟩
      ·intro cs hc
       rcases List.mem_or_eq_of_mem_set hc with h|rfl
       ·exact HCS.o cs h
       ·rfl
      ·rw [List.drop_set_of_lt (by omega)]
       have:(css'.drop j).drop 1=(css.drop j).drop 1:=by rw [HD.o]
       simpa [List.drop_drop] using this
      ·rw [HST.o];simp [HFL.o]
      ·intro a cs x ha h1 h2
       rw [HST.o] at h2
       simp only [Bool.not_false,if_true] at h2
       by_cases hai:a<i
       ·rw [List.getElem?_set_ne (by omega)] at h1
        rw [List.getElem?_append_left (by rw [HFL.o];exact hai)] at h2
        exact HRI.o a cs x hai h1 h2
       ·obtain rfl:a=i:=by omega
        rw [List.getElem?_append_right (by rw [HFL.o];omega),HFL.o,Nat.sub_self] at h2
        rw [List.getElem?_set_self (by rw [HL'.o];omega)] at h1
        obtain rfl:=Option.some.inj h1
        obtain rfl:=Option.some.inj h2
        exact HRW.o
     case measure=>simp [intOf];omega
    ·rw [hq] at HS HST
     generalize l[j]=q at*
     go_wp2_with (go_at_fn F;refine(HS.o _ ((Grow.refl wr).alloc _)).mono ?_;rintro e w1 ⟨rfl,hb1⟩)
     have HB1:=η hb1
     clear hb1
     go_roundw
     case rel=>
      refine⟨i,j+1,css',by omega,by omega,rfl,by go_num,grownBy_trans HGR.o (grownBy_of_grow (((Grow.refl wr).alloc _).trans HB1.o) _),HL'.o,HCS.o,HOWN.o.kept (grownBy_of_grow (((Grow.refl wr).alloc _).trans HB1.o) none) (by right;simp [Value.ownBlock]),?_,?_,?_⟩
      ·have:(css'.drop j).drop 1=(css.drop j).drop 1:=by rw [HD.o]
       simpa [List.drop_drop] using this
      ·rw [HST.o];simp [HFL.o]
      ·intro a cs x ha h1 h2
       rw [HST.o] at h2
       simp only [Bool.not_true,Bool.false_eq_true,if_false,List.append_nil] at h2
       exact HRI.o a cs x ha h1 h2
     case measure=>simp [intOf];omega
   ·obtain rfl:j=l.length:=by omega
    have hic:i≤cap:=by omega
    obtain⟨w2,hcl,HO2,HG2⟩:=clear_run ei_opn 0 HOWN.o i (l.length - i) (cap - i) (some ⟨g,i*4,none⟩) (by omega) (fun _=>rfl) (by omega)
    have HCL:=η hcl
    have HO2':=η HO2
    have HG2':=η HG2
    clear hcl HO2 HG2 eg
    have hil:i<cap:=by omega
    have hil2:i≤l.length:=by omega
    go_wp2_with fail
    rw [HCL.o]
    go_wp2
    go_ret
    refine⟨_,rfl,?_,grownBy_trans HGR.o HG2'.o,rfl⟩
    have hfin:(l.filter fun x=>!p x).length=i:=by have:=HFL.o;rw [List.take_of_length_le (Nat.le_refl _)] at this;exact this
    refine⟨css'.take i,?_,by rw [List.length_take,HL'.o,hfin];omega,fun a cs x h1 h2=>?_⟩
    ·have h:=HO2'.o
     rw [flatten_take css' i HCS.o] at h
     rw [hfin];exact h
    ·rw [List.getElem?_take] at h1
     split at h1
     ·rename_i hai
      have h3:=HRI.o a cs x hai h1 (by rw [List.take_of_length_le (Nat.le_refl _)];exact h2)
      exact h3
     ·cases h1
theorem info_hd:(Try.prog.info? 57).map (·.size)=some 4:=by kernel_rfl
abbrev zhead:Array Value:=#[.slice none 0 0,.int .i64 0,.int .i64 0,.slice none 0 0]
def kmem (w w1 wr:World) (vl vo:Value):CM:=fr w wr [vl.ownBlock,vo.ownBlock,some w.heap.size,some w1.heap.size]
structure KBox (w w1 wr:World) (vl vo:Value) (l:List Rc) (h:Hd):Prop where
 res:wr.heap[w.heap.size]? =some (.cells zhead 57 (0,0))
 row:wr.heap[w1.heap.size]? =some (.cells #[vl,.int .i64 h.boot,.int .i64 h.next,vo] 57 (0,0))
 log:OwnC Ty.rc (kmem w w1 wr vl vo) wr (w.heap.size+1) 48 vl l
 opn:OwnC Ty.opn (kmem w w1 wr vl vo) wr (w1.heap.size+1) 136 vo h.opn
 grow:Grow w wr
 size:w1.heap.size+1≤wr.heap.size
 lt:∀k,vl.ownBlock=some k→k<w1.heap.size
 w1:w.heap.size+1≤w1.heap.size
structure KChg (w1 wr w':World) (vo vo':Value):Prop where
 size:wr.heap.size≤w'.heap.size
 block:∀k,k<wr.heap.size→k≠w1.heap.size→vo.ownBlock≠some k→w'.heap[k]? =wr.heap[k]?
 opn:vo'.ownBlock=vo.ownBlock∨∃g,vo'.ownBlock=some g∧wr.heap.size≤g
theorem KChg.mem {w w1 wr w':World} {vl vo vo':Value} (c:KChg w1 wr w' vo vo'):Sub (kmem w w1 wr vl vo) (kmem w w1 w' vl vo'):=by
 refine fr_step fun k hk _ hx=>?_
 simp only [List.mem_cons,List.not_mem_nil,or_false,not_or] at hx ⊢
 obtain⟨x1,x2,x4,x5⟩:=hx
 refine⟨c.block k hk (fun e=>x5 (by rw [e])) (fun e=>x2 e.symm),x1,?_,x4,x5⟩
 rcases c.opn with e|⟨g,e,hg⟩
 ·rw [e];exact x2
 ·rw [e];simp;omega
theorem KBox.put {w w1 wr w':World} {vl vo vo':Value} {l:List Rc} {h h':Hd} (b:KBox w w1 wr vl vo l h) (c:KChg w1 wr w' vo vo') (hG:Grow w w')
  (row:w'.heap[w1.heap.size]? =some (.cells #[vl,.int .i64 h'.boot,.int .i64 h'.next,vo'] 57 (0,0))) (opn:OwnC Ty.opn (kmem w w1 w' vl vo') w' (w1.heap.size+1) 136 vo' h'.opn):KBox w w1 w' vl vo' l h' where
 res:=by
  have h1:=b.w1
  have h2:=b.size
  rw [c.block _ (by omega) (by omega) (fun e=>by have:=(b.opn.lt _ e).1;omega)];exact b.res
 row:=row
 log:=by
  refine(b.log.mono c.mem).block fun k hk=>?_
  have h1:=b.lt k hk
  have h2:=b.size
  exact c.block k (by omega) (by omega) (fun e=>by have:=(b.opn.lt _ e).1;omega)
 opn:=opn
 grow:=hG
 size:=Nat.le_trans b.size c.size
 lt:=b.lt
 w1:=b.w1
theorem KBox.later {w w1 wr w':World} {vl vo:Value} {l:List Rc} {h:Hd} (b:KBox w w1 wr vl vo l h) (hg:Grow wr w'):KBox w w1 w' vl vo l h:=
 have c:KChg w1 wr w' vo vo:=⟨hg.size,fun k hk _ _=>hg.block k hk,.inl rfl⟩
 b.put c (b.grow.trans hg) (row_grow b.row hg) ((b.opn.mono c.mem).grow hg)
theorem row_set4_3 {w:World} {B:Nat} {a b c d:Value} {t:TypeId} (h:w.heap[B]? =some (.cells #[a,b,c,d] t (0,0))) (u:Value):(w.setCell ⟨B,3,none⟩ u).heap[B]? =some (.cells #[a,b,c,u] t (0,0)):=by
 simp only [World.setCell,Array.getElem?_modify,h];simp
theorem row_set4_1 {w:World} {B:Nat} {a b c d:Value} {t:TypeId} (h:w.heap[B]? =some (.cells #[a,b,c,d] t (0,0))) (u:Value):(w.setCell ⟨B,1,none⟩ u).heap[B]? =some (.cells #[a,u,c,d] t (0,0)):=by
 simp only [World.setCell,Array.getElem?_modify,h];simp
theorem KBox.opns {w w1 wr wq w':World} {vl vo vo':Value} {l:List Rc} {h:Hd} {os:List Opn} (b:KBox w w1 wr vl vo l h) (hG:Grow wr wq)
  (ho:OwnC Ty.opn (kmem w w1 wq vl vo) w' (w1.heap.size+1) 136 vo' os) (hg:wq.grownBy w' vo.ownBlock) (hb:vo'.ownBlock=vo.ownBlock∨∃g,vo'.ownBlock=some g∧wq.heap.size≤g):
  KBox w w1 (w'.setCell ⟨w1.heap.size,3,none⟩ vo') vl vo' l { h with opn:=os }:=by
 have bq:=b.later hG
 have hs:=hG.size
 have hs1:=b.size
 have hw1:=b.w1
 have hlt:=bq.opn.lt
 have hB:∀k,k≠w1.heap.size→(w'.setCell ⟨w1.heap.size,3,none⟩ vo').heap[k]? =w'.heap[k]?:=fun k hk=>Below.heap_setCell _ _ _ _ (fun e=>hk e)
 have c1:KChg w1 wq (w'.setCell ⟨w1.heap.size,3,none⟩ vo') vo vo':=⟨by simpa using hg.size,fun k hk h1 h2=>by rw [hB k h1,hg.block k hk (fun e=>h2 e.symm)],hb⟩
 have hGw:Grow w (w'.setCell ⟨w1.heap.size,3,none⟩ vo'):=(bq.grow.grown hg (fun k hk=>by have:=(hlt k hk).1;omega)).setCell (by simp;omega) _
 exact bq.put c1 hGw (row_set4_3 (row_by bq.row hg (fun e=>by have:=(hlt _ e.symm).1;omega)) _) ((ho.mono c1.mem).block fun k hk=>hB k (by have:=(ho.lt k hk).1;omega))
theorem KBox.boot {w w1 wr wq:World} {vl vo:Value} {l:List Rc} {h:Hd} (b:KBox w w1 wr vl vo l h) (hG:Grow wr wq) (x:Int):KBox w w1 (wq.setCell ⟨w1.heap.size,1,none⟩ (.int .i64 x)) vl vo l { h with boot:=x }:=by
 have bq:=b.later hG
 have hs:=hG.size
 have hs1:=b.size
 have hw1:=b.w1
 have hB:∀k,k≠w1.heap.size→(wq.setCell ⟨w1.heap.size,1,none⟩ (.int .i64 x)).heap[k]? =wq.heap[k]?:=fun k hk=>Below.heap_setCell _ _ _ _ (fun e=>hk e)
 have c1:KChg w1 wq (wq.setCell ⟨w1.heap.size,1,none⟩ (.int .i64 x)) vo vo:=⟨by simp,fun k hk h1 _=>hB k h1,.inl rfl⟩
 exact bq.put c1 (bq.grow.setCell (by simp;omega) _) (row_set4_1 bq.row _) ((bq.opn.mono c1.mem).block fun k hk=>hB k (by have:=(bq.opn.lt k hk).1;omega))
theorem lhead_tells (w:World) (row:Option Nat) (B:Nat) (d:Int) (l:List Opn) (hc:w.cell? ⟨B,1,none⟩=some (.int .i64 d)) (hB:B<w.heap.size) (hr:row≠some B):TellsG Try.prog Ty.opn aggOf w row 125 #[.pointer (some ⟨B,0,none⟩)] l (fun o=>o.deed==d) where
 ent:=fun args w=>by kernel_rfl
 say:=fun wx cs x hg _ hR=>by
  obtain⟨vp,vh,rfl,-,hp,hh⟩:=hR
  obtain⟨ap,cp,rfl,-⟩:=hp
  obtain⟨ah,ch,rfl,-⟩:=hh
  have hBx:B<wx.heap.size:=Nat.lt_of_lt_of_le hB hg.size
  have hc2:wx.cell? ⟨B,1,none⟩=some (.int .i64 d):=by rw [World.cell?_of_block (hg.block B hB (fun e=>hr e.symm))];exact hc
  clear hc
  show Calls _ _ #[.agg #[.int .i64 x.deed,.slice ap x.parts.length cp,.bool x.dec,.slice ah x.heard.length ch],.pointer (some ⟨B,0,none⟩)] _ _
  go_enter Try.func125,Try.ntmps125
  go_wp2
  go_ret
  exact⟨rfl,grA⟩
theorem Of.hd_form {c:CM} {v:Value} {h:Hd} (hv:Of Ty.hd c v h):∃al cl ar cr,v=.agg #[.slice al h.log.length cl,.int .i64 h.boot,.int .i64 h.next,.slice ar h.opn.length cr]:=by
 obtain⟨cs,rfl,vl,vo,rfl,hl,-,-,ho⟩:=hv
 obtain⟨al,cl,rfl,-⟩:=id hl
 obtain⟨ao,co,rfl,-⟩:=id ho
 exact⟨_,_,_,_,rfl⟩
theorem Of.hd_log {c:CM} {al ar:Option Addr} {nl cl nr cr:Nat} {b n:Value} {h:Hd} (hv:Of Ty.hd c (.agg #[.slice al nl cl,b,n,.slice ar nr cr]) h):Sl Ty.rc c (.slice al nl cl) h.log∧Sl Ty.opn c (.slice ar nr cr) h.opn:=by
 obtain⟨cs,he,vl,vo,rfl,hl,-,-,ho⟩:=hv
 simp at he
 obtain⟨rfl,-,-,rfl⟩:=he
 exact⟨hl,ho⟩
set_option maxRecDepth 100000 in
set_option maxHeartbeats 8000000 in
theorem ref_sameHead {v v':Value} {h h':Hd} (w:World) (hv:Of Ty.hd w.cell? v h) (hv':Of Ty.hd w.cell? v' h'):
  Calls Try.prog 41 #[v,v'] w fun e w'=>e=.returned (.bool (decide (h=h')))∧Grow w w':=by
 obtain⟨al,cl,ar,cr,rfl⟩:=hv.hd_form
 obtain⟨al2,cl2,ar2,cr2,rfl⟩:=hv'.hd_form
 have k:=Of.hd_log hv
 have k':=Of.hd_log hv'
 have HSL:=η (fun(W:World) (hW:Grow w W)=>ref_sameLog W (k.1.mono hW.sub) (k'.1.mono hW.sub))
 have HG0:Hid (Grow w ((w.alloc (.cells #[.slice al h.log.length cl,.int .i64 h.boot,.int .i64 h.next,.slice ar h.opn.length cr] 57)).alloc (.cells #[.slice al2 h'.log.length cl2,.int .i64 h'.boot,.int .i64 h'.next,.slice ar2 h'.opn.length cr2] 57))):=η (((Grow.refl w).alloc _).alloc _)
 have HR2:Hid (((w.alloc (.cells #[.slice al h.log.length cl,.int .i64 h.boot,.int .i64 h.next,.slice ar h.opn.length cr] 57)).alloc (.cells #[.slice al2 h'.log.length cl2,.int .i64 h'.boot,.int .i64 h'.next,.slice ar2 h'.opn.length cr2] 57)).heap[w.heap.size]? =some (.cells #[.slice al h.log.length cl,.int .i64 h.boot,.int .i64 h.next,.slice ar h.opn.length cr] 57 (0,0))):=η (heap_later (row_new _ _) _)
 have HR3:Hid (((w.alloc (.cells #[.slice al h.log.length cl,.int .i64 h.boot,.int .i64 h.next,.slice ar h.opn.length cr] 57)).alloc (.cells #[.slice al2 h'.log.length cl2,.int .i64 h'.boot,.int .i64 h'.next,.slice ar2 h'.opn.length cr2] 57)).heap[w.heap.size+1]? =some (.cells #[.slice al2 h'.log.length cl2,.int .i64 h'.boot,.int .i64 h'.next,.slice ar2 h'.opn.length cr2] 57 (0,0))):=η (by simpa using row_new (w.alloc (.cells #[.slice al h.log.length cl,.int .i64 h.boot,.int .i64 h.next,.slice ar h.opn.length cr] 57)) _)
 obtain⟨ar',cr',he,h1,h2,-,hel⟩:=k.2
 obtain⟨rfl,rfl⟩:ar=ar'∧cr=cr':=by simpa using he
 obtain⟨ar3,cr3,he',h1',h2',-,hel'⟩:=k'.2
 obtain⟨rfl,rfl⟩:ar2=ar3∧cr2=cr3:=by simpa using he'
 unfold maxLen at h2 h2'
 clear hv hv' k k' he he'
 by_cases hl:h.log=h'.log
 ·by_cases hb:h.boot=h'.boot
  ·by_cases hn:h.next=h'.next
   ·by_cases ho:h.opn.length=h'.opn.length
    ·have DL:=η (decide_eq_true hl)
     have b1:(h.boot !=h'.boot)=false:=by simp [hb]
     have b2:(h.next !=h'.next)=false:=by simp [hn]
     have b3:((h.opn.length:Int) !=h'.opn.length)=false:=by simp [ho]
     have HEQ:Hid (h.opn=h'.opn→h=h'):=fun e=>by cases h;cases h';simp_all
     have HLN:=η ho
     clear hl hb hn ho
     go_enter Try.func41,Try.ntmps41
     go_wp2_with fail
     refine(HSL.o _ HG0.o).mono ?_
     rw [DL.o]
     rintro e w1 ⟨rfl,hbw1⟩
     (obtain⟨cw1,fw1⟩:=bcell hbw1;have zw10:w.heap.size<w1.heap.size:=(by have:=hbw1.size;(try simp at this);omega);have zw11:w.heap.size+1<w1.heap.size:=(by have:=hbw1.size;(try simp at this);omega);have Gw1:=η hbw1;clear hbw1)
     have HGL:Hid (Grow w w1):=η (HG0.o.trans Gw1.o)
     obtain⟨k0,k1,k2,k3⟩:=cells4 (row_grow HR2.o Gw1.o)
     obtain⟨m0,m1,m2,m3⟩:=cells4 (row_grow HR3.o Gw1.o)
     have HM3:=η m3
     clear cw1 fw1
     go_wp2
     clear k0 k1 k2 k3 m0 m1 m2 m3
     go_loopw [40] (fun i wr=>∃k:Nat,k≤h.opn.length∧i=.int .i64 k∧Grow w1 wr∧∀j,j<k→h.opn[j]? =h'.opn[j]?) (fun i _=>h.opn.length - (intOf i).toNat)
     case atStart=>exact⟨0,by omega,rfl,Grow.refl _,fun j h=>by omega⟩
     case round=>
      obtain⟨k,hk',rfl,hb,hE⟩:=hrel
      by_cases hlt:k<h.opn.length
      ·have hlt':k<h'.opn.length:=by have:=HLN.o;omega
       have H1:=η (same_next hlt hlt' hE)
       have H2:Hid (¬h.opn[k]=h'.opn[k]→decide (h=h')=false):=fun h2=>by
        rw [decide_eq_false_iff_not];intro e;apply h2;simp [e]
       clear hE
       obtain⟨b,o,vp,vh,rfl,c0,c1,c2,c3,-,hp,hh⟩:=Opns.at_ hel k hlt
       obtain⟨b',o',vq,vg,rfl,d0,d1,d2,d3,-,hq,hg⟩:=Opns.at_ hel' k hlt'
       obtain⟨ap,cp,rfl,-⟩:=id hp
       obtain⟨ah,ch,rfl,-⟩:=id hh
       obtain⟨aq,cq,rfl,-⟩:=id hq
       obtain⟨ag,cg,rfl,-⟩:=id hg
       have HSP:=η (fun(W:World) (hW:Grow wr W)=>ref_sameParts W (hp.mono (HGL.o.trans (hb.trans hW)).sub) (hq.mono (HGL.o.trans (hb.trans hW)).sub))
       have HSI:=η (fun(W:World) (hW:Grow wr W)=>ref_sameInts W (hh.mono (HGL.o.trans (hb.trans hW)).sub) (hg.mono (HGL.o.trans (hb.trans hW)).sub))
       replace c0:=(HGL.o.trans hb).sub _ _ c0
       replace c1:=(HGL.o.trans hb).sub _ _ c1
       replace c2:=(HGL.o.trans hb).sub _ _ c2
       replace c3:=(HGL.o.trans hb).sub _ _ c3
       replace d0:=(HGL.o.trans hb).sub _ _ d0
       replace d1:=(HGL.o.trans hb).sub _ _ d1
       replace d2:=(HGL.o.trans hb).sub _ _ d2
       replace d3:=(HGL.o.trans hb).sub _ _ d3
       have m3:=hb.sub _ _ HM3.o
       have z1:w.heap.size+1<wr.heap.size:=World.block_lt_of_cell? wr _ m3
       have z2:b'<wr.heap.size:=World.block_lt_of_cell? wr _ d0
       clear hel hel' hp hh hq hg
       generalize h.opn[k]=p at*
       generalize h'.opn[k]=q at*
       generalize hpd:p.dec=bp at*
       generalize hqd:q.dec=bq at*
       by_cases hdeed:p.deed=q.deed
       ·by_cases hdec:bp=bq
        ·subst hdec
         by_cases hparts:p.parts=q.parts
         ·by_cases hheard:p.heard=q.heard
          ·have hpe:p=q:=by cases p;cases q;simp_all
           have H3:=η (H1.o hpe)
           have n1:(p.deed !=q.deed)=false:=by simp [hdeed]
           have DP:=η (decide_eq_true hparts)
           have DI:=η (decide_eq_true hheard)
           clear hpe hpd hqd hdeed hparts hheard H1 H2
           go_wp2_with fail
           refine(HSP.o _ (((Grow.refl wr).alloc (.cells #[.int .i64 p.deed,.slice ap p.parts.length cp,.bool bp,.slice ah p.heard.length ch] 136)).alloc (.cells #[.int .i64 q.deed,.slice aq q.parts.length cq,.bool bp,.slice ag q.heard.length cg] 136))).mono ?_
           rw [DP.o]
           rintro e w2 ⟨rfl,hbw2⟩
           (obtain⟨cw2,fw2⟩:=bcell hbw2;have zw20:wr.heap.size<w2.heap.size:=(by have:=hbw2.size;(try simp at this);omega);have zw21:wr.heap.size+1<w2.heap.size:=(by have:=hbw2.size;(try simp at this);omega);have Gw2:=η hbw2;clear hbw2)
           go_wp2_with fail
           refine(HSI.o _ ((((Grow.refl wr).alloc (.cells #[.int .i64 p.deed,.slice ap p.parts.length cp,.bool bp,.slice ah p.heard.length ch] 136)).alloc (.cells #[.int .i64 q.deed,.slice aq q.parts.length cq,.bool bp,.slice ag q.heard.length cg] 136)).trans Gw2.o)).mono ?_
           rw [DI.o]
           rintro e w3 ⟨rfl,hbw3⟩
           (obtain⟨cw3,fw3⟩:=bcell hbw3;have zw30:wr.heap.size<w3.heap.size:=(by have:=hbw3.size;(try simp at this);omega);have zw31:wr.heap.size+1<w3.heap.size:=(by have:=hbw3.size;(try simp at this);omega);have Gw3:=η hbw3;clear hbw3)
           go_wp2
           go_roundw
           case rel=>exact⟨k+1,by omega,by go_num,hb.trans (((((Grow.refl wr).alloc (.cells #[.int .i64 p.deed,.slice ap p.parts.length cp,.bool bp,.slice ah p.heard.length ch] 136)).alloc (.cells #[.int .i64 q.deed,.slice aq q.parts.length cq,.bool bp,.slice ag q.heard.length cg] 136)).trans Gw2.o).trans Gw3.o),H3.o⟩
           case measure=>simp [intOf];omega
          ·have H3:=η (H2.o (fun e=>hheard (by rw [e])))
           have n1:(p.deed !=q.deed)=false:=by simp [hdeed]
           have DP:=η (decide_eq_true hparts)
           have DI:=η (decide_eq_false hheard)
           clear hpd hqd hdeed hparts hheard H1 H2
           go_wp2_with fail
           refine(HSP.o _ (((Grow.refl wr).alloc (.cells #[.int .i64 p.deed,.slice ap p.parts.length cp,.bool bp,.slice ah p.heard.length ch] 136)).alloc (.cells #[.int .i64 q.deed,.slice aq q.parts.length cq,.bool bp,.slice ag q.heard.length cg] 136))).mono ?_
           rw [DP.o]
           rintro e w2 ⟨rfl,hbw2⟩
           (obtain⟨cw2,fw2⟩:=bcell hbw2;have zw20:wr.heap.size<w2.heap.size:=(by have:=hbw2.size;(try simp at this);omega);have zw21:wr.heap.size+1<w2.heap.size:=(by have:=hbw2.size;(try simp at this);omega);have Gw2:=η hbw2;clear hbw2)
           go_wp2_with fail
           refine(HSI.o _ ((((Grow.refl wr).alloc (.cells #[.int .i64 p.deed,.slice ap p.parts.length cp,.bool bp,.slice ah p.heard.length ch] 136)).alloc (.cells #[.int .i64 q.deed,.slice aq q.parts.length cq,.bool bp,.slice ag q.heard.length cg] 136)).trans Gw2.o)).mono ?_
           rw [DI.o]
           rintro e w3 ⟨rfl,hbw3⟩
           (obtain⟨cw3,fw3⟩:=bcell hbw3;have zw30:wr.heap.size<w3.heap.size:=(by have:=hbw3.size;(try simp at this);omega);have zw31:wr.heap.size+1<w3.heap.size:=(by have:=hbw3.size;(try simp at this);omega);have Gw3:=η hbw3;clear hbw3)
           go_wp2
           go_ret
           exact⟨ret_bool H3.o.symm,HGL.o.trans (hb.trans (((((Grow.refl wr).alloc (.cells #[.int .i64 p.deed,.slice ap p.parts.length cp,.bool bp,.slice ah p.heard.length ch] 136)).alloc (.cells #[.int .i64 q.deed,.slice aq q.parts.length cq,.bool bp,.slice ag q.heard.length cg] 136)).trans Gw2.o).trans Gw3.o))⟩
         ·have H3:=η (H2.o (fun e=>hparts (by rw [e])))
          have n1:(p.deed !=q.deed)=false:=by simp [hdeed]
          have DP:=η (decide_eq_false hparts)
          clear hpd hqd hdeed hparts H1 H2
          go_wp2_with fail
          refine(HSP.o _ (((Grow.refl wr).alloc (.cells #[.int .i64 p.deed,.slice ap p.parts.length cp,.bool bp,.slice ah p.heard.length ch] 136)).alloc (.cells #[.int .i64 q.deed,.slice aq q.parts.length cq,.bool bp,.slice ag q.heard.length cg] 136))).mono ?_
          rw [DP.o]
          rintro e w2 ⟨rfl,hbw2⟩
          (obtain⟨cw2,fw2⟩:=bcell hbw2;have zw20:wr.heap.size<w2.heap.size:=(by have:=hbw2.size;(try simp at this);omega);have zw21:wr.heap.size+1<w2.heap.size:=(by have:=hbw2.size;(try simp at this);omega);have Gw2:=η hbw2;clear hbw2)
          go_wp2
          go_ret
          exact⟨ret_bool H3.o.symm,HGL.o.trans (hb.trans ((((Grow.refl wr).alloc (.cells #[.int .i64 p.deed,.slice ap p.parts.length cp,.bool bp,.slice ah p.heard.length ch] 136)).alloc (.cells #[.int .i64 q.deed,.slice aq q.parts.length cq,.bool bp,.slice ag q.heard.length cg] 136)).trans Gw2.o))⟩
        ·have H3:=η (H2.o (fun e=>hdec (by rw [←hpd,←hqd,e])))
         have n1:(p.deed !=q.deed)=false:=by simp [hdeed]
         have h2b:(bp=true∧bq=false)∨(bp=false∧bq=true):=by cases bp<;>cases bq<;>simp_all
         clear hpd hqd hdeed hdec H1 H2
         rcases h2b with⟨rfl,rfl⟩|⟨rfl,rfl⟩
         all_goals
          go_wp2
          go_ret
          exact⟨ret_bool H3.o.symm,HGL.o.trans grA⟩
       ·have H3:=η (H2.o (fun e=>hdeed (by rw [e])))
        have n1:(p.deed !=q.deed)=true:=by simp [hdeed]
        clear hpd hqd hdeed H1 H2
        go_wp2
        go_ret
        exact⟨ret_bool H3.o.symm,HGL.o.trans grA⟩
      ·have H9:=η (same_all HLN.o (by omega) hE)
       clear hel hel' hE
       go_wp2
       go_ret
       refine⟨ret_bool ?_,HGL.o.trans hb⟩
       rw [eq_comm,decide_eq_true_eq]
       exact HEQ.o H9.o
    ·have HE:Hid (decide (h=h')=false):=by show _=_;rw [decide_eq_false_iff_not];rintro rfl;exact ho rfl
     have DL:=η (decide_eq_true hl)
     have b1:(h.boot !=h'.boot)=false:=by simp [hb]
     have b2:(h.next !=h'.next)=false:=by simp [hn]
     have b3:((h.opn.length:Int) !=h'.opn.length)=true:=by simp;omega
     clear hl hb hn ho hel hel'
     go_enter Try.func41,Try.ntmps41
     go_wp2_with fail
     refine(HSL.o _ HG0.o).mono ?_
     rw [DL.o]
     rintro e w1 ⟨rfl,hbw1⟩
     (obtain⟨cw1,fw1⟩:=bcell hbw1;have zw10:w.heap.size<w1.heap.size:=(by have:=hbw1.size;(try simp at this);omega);have zw11:w.heap.size+1<w1.heap.size:=(by have:=hbw1.size;(try simp at this);omega);have Gw1:=η hbw1;clear hbw1)
     go_wp2
     go_ret
     exact⟨ret_bool HE.o.symm,HG0.o.trans Gw1.o⟩
   ·have HE:Hid (decide (h=h')=false):=by show _=_;rw [decide_eq_false_iff_not];rintro rfl;exact hn rfl
    have DL:=η (decide_eq_true hl)
    have b1:(h.boot !=h'.boot)=false:=by simp [hb]
    have b2:(h.next !=h'.next)=true:=by simp [hn]
    clear hl hb hn hel hel'
    go_enter Try.func41,Try.ntmps41
    go_wp2_with fail
    refine(HSL.o _ HG0.o).mono ?_
    rw [DL.o]
    rintro e w1 ⟨rfl,hbw1⟩
    (obtain⟨cw1,fw1⟩:=bcell hbw1;have zw10:w.heap.size<w1.heap.size:=(by have:=hbw1.size;(try simp at this);omega);have zw11:w.heap.size+1<w1.heap.size:=(by have:=hbw1.size;(try simp at this);omega);have Gw1:=η hbw1;clear hbw1)
    go_wp2
    go_ret
    exact⟨ret_bool HE.o.symm,HG0.o.trans Gw1.o⟩
  ·have HE:Hid (decide (h=h')=false):=by show _=_;rw [decide_eq_false_iff_not];rintro rfl;exact hb rfl
   have DL:=η (decide_eq_true hl)
   have b1:(h.boot !=h'.boot)=true:=by simp [hb]
   clear hl hb hel hel'
   go_enter Try.func41,Try.ntmps41
   go_wp2_with fail
   refine(HSL.o _ HG0.o).mono ?_
   rw [DL.o]
   rintro e w1 ⟨rfl,hbw1⟩
   (obtain⟨cw1,fw1⟩:=bcell hbw1;have zw10:w.heap.size<w1.heap.size:=(by have:=hbw1.size;(try simp at this);omega);have zw11:w.heap.size+1<w1.heap.size:=(by have:=hbw1.size;(try simp at this);omega);have Gw1:=η hbw1;clear hbw1)
   go_wp2
   go_ret
   exact⟨ret_bool HE.o.symm,HG0.o.trans Gw1.o⟩
 ·have HE:Hid (decide (h=h')=false):=by show _=_;rw [decide_eq_false_iff_not];rintro rfl;exact hl rfl
  have DL:=η (decide_eq_false hl)
  clear hl hel hel'
  go_enter Try.func41,Try.ntmps41
  go_wp2_with fail
  refine(HSL.o _ HG0.o).mono ?_
  rw [DL.o]
  rintro e w1 ⟨rfl,hbw1⟩
  (obtain⟨cw1,fw1⟩:=bcell hbw1;have zw10:w.heap.size<w1.heap.size:=(by have:=hbw1.size;(try simp at this);omega);have zw11:w.heap.size+1<w1.heap.size:=(by have:=hbw1.size;(try simp at this);omega);have Gw1:=η hbw1;clear hbw1)
  go_wp2
  go_ret
  exact⟨ret_bool HE.o.symm,HG0.o.trans Gw1.o⟩
def sumsOf (k:Int) (D:List Rd) (done:List Int):Sm:=
 done.foldl (fun s d=>match D.find? (isD d) with|some r=>doP s (ofL r.parts k)|none=>s) ⟨0,0,0,0⟩
structure RegOk (G:Reg) (n:Int):Prop where
 nd:(G.map (·.1)).Nodup
 ok:∀x∈G,0≤x.1∧wrongE x.2 n=0
structure DecOk (G:Reg) (D:List Rd):Prop where
 reg:∀r∈D,(r.deed,r.parts)∈G
 nd:(D.map (·.deed)).Nodup
structure HI (G:Reg) (D:List Rd) (k:Int) (h:Hs):Prop where
 calm:Calm h
 reg:∀r∈h.ready,∃P,(r.deed,P)∈G∧r.parts=ofL P k∧r.parts≠ []
 fits:∀r∈h.ready,fitsE h.sums.get r.parts=0
 right:rightS h.sums=true
 done:∀d∈h.done,∃r∈D,r.deed=d∧ofL r.parts k≠ []
 nodup:h.done.Nodup
 apart:∀r∈h.ready,r.deed∉h.done
 sums:h.sums=sumsOf k D h.done
 add:∀q:Int,0≤q→q<4→h.sums.get q=tot k q (D.filter fun r=>decide (r.deed∈h.done))
 log:∀r∈h.log,okRec r=true
theorem reg_same {G:Reg} (h:(G.map (·.1)).Nodup):∀{d:Int} {P Q:List Pt},(d,P)∈G→(d,Q)∈G→P=Q:=by
 induction G with
 |nil=>intro d P Q h;simp at h
 |cons x G ih=>
  intro d P Q h1 h2
  rw [List.map_cons,List.nodup_cons] at h
  rcases List.mem_cons.1 h1 with e1|h1<;>rcases List.mem_cons.1 h2 with e2|h2
  ·rw [←e1] at e2;exact(Prod.mk.inj e2).2.symm
  ·exact absurd (List.mem_map.2 ⟨_,h2,by rw [←e1]⟩) h.1
  ·exact absurd (List.mem_map.2 ⟨_,h1,by rw [←e2]⟩) h.1
  ·exact ih h.2 h1 h2
theorem find_dec {D:List Rd} (h:(D.map (·.deed)).Nodup) {r:Rd} (hr:r∈D):D.find? (isD r.deed)=some r:=by
 induction D with
 |nil=>simp at hr
 |cons x D ih=>
  rw [List.map_cons,List.nodup_cons] at h
  rcases List.mem_cons.1 hr with rfl|hr
  ·rw [List.find?_cons_of_pos (by simp [isD])]
  ·rw [List.find?_cons_of_neg (by simp [isD];exact fun e=>h.1 (List.mem_map.2 ⟨r,hr,e.symm⟩))]
   exact ih h.2 hr
theorem tot_done {k q:Int} {r:Rd}:∀{D:List Rd} {done:List Int},(D.map (·.deed)).Nodup→r∈D→r.deed∉done→
  tot k q (D.filter fun x=>decide (x.deed∈done++ [r.deed]))=tot k q (D.filter fun x=>decide (x.deed∈done))+amt k q r.parts
 | [],done,_,h,_=>by simp at h
 |x::D,done,hn,h,hd=>by
  rw [List.map_cons,List.nodup_cons] at hn
  rcases List.mem_cons.1 h with rfl|h
  ·have e:(D.filter fun x=>decide (x.deed∈done++ [r.deed]))=D.filter fun x=>decide (x.deed∈done):=by
    refine List.filter_congr fun y hy=>?_
    have hne:y.deed≠r.deed:=fun e=>hn.1 (List.mem_map.2 ⟨y,hy,e⟩)
    simp [hne]
   rw [List.filter_cons_of_pos (by simp),List.filter_cons_of_neg (by simpa using hd),tot,e];omega
  ·have ih:=tot_done (k:=k) (q:=q) hn.2 h hd
   have hne:x.deed≠r.deed:=fun e=>hn.1 (List.mem_map.2 ⟨r,h,e.symm⟩)
   by_cases hx:x.deed∈done
   ·rw [List.filter_cons_of_pos (by simp [hx]),List.filter_cons_of_pos (by simp [hx]),tot,tot,ih];omega
   ·rw [List.filter_cons_of_neg (by simp [hx,hne]),List.filter_cons_of_neg (by simp [hx]),ih]
theorem mem_erase {l:List Rd} {d:Int} (hn:(l.map (·.deed)).Nodup) {r:Rd} (h:r∈l.eraseP (isD d)):r∈l∧r.deed≠d:=by
 refine⟨List.eraseP_sublist.subset h,fun e=>?_⟩
 have:=ready_erase (d:=d) hn
 unfold readyE at this
 rw [List.any_eq_false] at this
 exact this r h (by simp [isD,e])
theorem note_sums {h:Hs} (hm:Made h) (r:Rc):(noteE h r).sums=(refStep h r).sums:=by rw [note_step hm]
theorem HI.hear {G:Reg} {D:List Rd} {k:Int} {h:Hs} {n:Int} (hi:HI G D k h) (hg:RegOk G n) (hd:DecOk G D) {m:Ms} (hm:RightM m) (hk:m.house=k)
  (h1:m.kind=1→∃P,(m.deed,P)∈G∧m.parts=ofL P k∧m.parts≠ []) (h4:m.kind=4→∃r∈D,r.deed=m.deed∧ofL r.parts k≠ []):HI G D k (hearH h m):=by
 have hc:=calm_hear hi.calm hm
 obtain⟨kind,d,house,ps⟩:=m
 simp only at hk
 subst hk
 have hmade:=hi.calm.made
 by_cases k1:kind=1
 ·subst k1
  by_cases hv:voteE h d ps=0∧readyE h.ready d=false
  ·have e:hearH h ⟨1,d,house,ps⟩=noteE h ⟨1,d,ps⟩:=by unfold hearH;rw [if_pos rfl,if_pos hv]
   rw [e] at hc ⊢
   obtain⟨P,hP,hps,hne⟩:=h1 rfl
   simp only at hP hps hne
   have hnd:d∉h.done:=by
    intro hx
    have:=hv.1
    unfold voteE at this
    rw [if_pos hx] at this
    cases this
   have hfit:fitsE h.sums.get ps=0:=by
    have:=hv.1
    unfold voteE at this
    rw [if_neg hnd,if_neg (by simp [hv.2])] at this
    split at this
    ·cases this
    ·exact this
   obtain⟨e1,e2⟩:=note1 hmade ps hv.2
   have e3:(noteE h ⟨1,d,ps⟩).sums=h.sums:=by rw [note_sums hmade,step_sums,find_unready hv.2]
   refine⟨hc,?_,?_,by rw [e3];exact hi.right,by rw [e2];exact hi.done,by rw [e2];exact hi.nodup,?_,by rw [e3,e2];exact hi.sums,by rw [e3,e2];exact hi.add,?_⟩
   ·rw [e1]
    intro r hr
    rcases List.mem_append.1 hr with hr|hr
    ·exact hi.reg r hr
    ·obtain rfl:=List.mem_singleton.1 hr
     exact⟨P,hP,hps,hne⟩
   ·rw [e1,e3]
    intro r hr
    rcases List.mem_append.1 hr with hr|hr
    ·exact hi.fits r hr
    ·obtain rfl:=List.mem_singleton.1 hr
     exact hfit
   ·rw [e1,e2]
    intro r hr
    rcases List.mem_append.1 hr with hr|hr
    ·exact hi.apart r hr
    ·obtain rfl:=List.mem_singleton.1 hr
     exact hnd
   ·rw [note_log]
    intro r hr
    rcases List.mem_append.1 hr with hr|hr
    ·exact hi.log r hr
    ·obtain rfl:=List.mem_singleton.1 hr
     have hp:=hm.parts rfl
     have hdd:=hm.deed
     simp only at hp hdd
     unfold okRec
     rw [decide_eq_true_eq]
     exact⟨hdd.1,fun _=>hp.1,fun _=>hne⟩
  ·rw [show hearH h ⟨1,d,house,ps⟩=h by unfold hearH;rw [if_pos rfl,if_neg hv]]
   exact hi
 have hdd:=hm.deed
 simp only at hdd
 have hlog:∀kd:Int,kd≠1→∀r∈(noteE h ⟨kd,d,[]⟩).log,okRec r=true:=by
  intro kd hkd
  rw [note_log]
  intro r hr
  rcases List.mem_append.1 hr with hr|hr
  ·exact hi.log r hr
  ·obtain rfl:=List.mem_singleton.1 hr
   unfold okRec
   rw [decide_eq_true_eq]
   exact⟨hdd.1,fun h=>absurd rfl h,fun h=>absurd h hkd⟩
 by_cases k4:kind=4
 ·subst k4
  by_cases hr:readyE h.ready d=true
  ·have e:hearH h ⟨4,d,house,ps⟩=noteE h ⟨2,d,[]⟩:=by unfold hearH;simp [hr]
   rw [e] at hc ⊢
   obtain⟨e1,e2⟩:=note2 hmade hr
   obtain⟨x,hx⟩:=find_ready hr
   have hxm:=List.mem_of_find?_eq_some hx
   have hxd:x.deed=d:=find_isD hx
   obtain⟨P,hP,hxp,hxne⟩:=hi.reg x hxm
   obtain⟨r,hrD,hrd,hrne⟩:=h4 rfl
   simp only at hrd
   have hrG:=hd.reg r hrD
   rw [hrd,←hxd] at hrG
   obtain rfl:P=r.parts:=reg_same hg.nd hP hrG
   have hw:=(hg.ok _ hP).2
   simp only at hw
   have e3:(noteE h ⟨2,d,[]⟩).sums=doP h.sums (ofL r.parts house):=by
    rw [note_sums hmade,step_sums,hx]
    simp [hxp]
   have hfit:=hi.fits x hxm
   rw [hxp] at hfit
   have hget:=(fits_sum hw hi.right house).1 hfit
   have hsum:∀q:Int,0≤q→q<4→(doP h.sums (ofL r.parts house)).get q=h.sums.get q+amt house q r.parts:=fun q a b=>doP_sum hw hi.right house a b
   have hnd:d∉h.done:=by rw [←hxd];exact hi.apart x hxm
   refine⟨hc,?_,?_,?_,?_,?_,?_,?_,?_,hlog 2 (by decide)⟩
   ·rw [e1]
    exact fun y hy=>hi.reg y (mem_erase hi.calm.fine.nodup hy).1
   ·rw [e1,e3]
    intro y hy
    obtain⟨hy1,hy2⟩:=mem_erase hi.calm.fine.nodup hy
    rw [←hi.fits y hy1]
    obtain⟨Q,hQ,hyp,-⟩:=hi.reg y hy1
    have hwQ:=(hg.ok _ hQ).2
    simp only at hwQ
    refine fits_congr fun p hp=>?_
    rw [hyp] at hp
    have hpk:=ofL_ok hwQ house p hp
    rw [hsum p.k hpk.1 hpk.2]
    have hz:has house p.k r.parts=false:=by
     cases hh:has house p.k r.parts with
     |false=>rfl
     |true=>
      have k1:=who_deed hi.calm.apart x hxm (by rw [hxp];exact has_keys hh)
      have k2:=who_deed (key:=p.k) hi.calm.apart y hy1 (by rw [hyp];exact List.mem_map.2 ⟨p,hp,rfl⟩)
      exact absurd (by rw [←k2,k1,hxd]) hy2
    rw [amt_none hz];omega
   ·rw [e3]
    exact rightS_get.2 fun q a b=>by rw [hsum q a b];exact hget q a b
   ·rw [e2]
    intro y hy
    rcases List.mem_append.1 hy with hy|hy
    ·exact hi.done y hy
    ·obtain rfl:=List.mem_singleton.1 hy
     exact⟨r,hrD,hrd,hrne⟩
   ·rw [e2,List.nodup_append]
    refine⟨hi.nodup,by simp,fun a ha b hb e=>?_⟩
    rw [e,List.mem_singleton.1 hb] at ha
    exact hnd ha
   ·rw [e1,e2]
    intro y hy
    obtain⟨hy1,hy2⟩:=mem_erase hi.calm.fine.nodup hy
    simp only [List.mem_append,List.mem_singleton,not_or]
    exact⟨hi.apart y hy1,hy2⟩
   ·rw [e3,e2]
    unfold sumsOf
    rw [List.foldl_append]
    show _=(match D.find? (isD d) with|some r=>doP (sumsOf house D h.done) (ofL r.parts house)|none=>_)
    rw [←hrd,find_dec hd.nd hrD]
    simp only
    rw [←hi.sums]
   ·intro q a b
    rw [e3,e2,hsum q a b,hi.add q a b]
    have:=tot_done (k:=house) (q:=q) hd.nd hrD (done:=h.done) (by rw [hrd];exact hnd)
    rw [hrd] at this
    rw [this]
  ·rw [show hearH h ⟨4,d,house,ps⟩=h by unfold hearH;simp [hr]]
   exact hi
 by_cases k5:kind=5
 ·subst k5
  by_cases hr:readyE h.ready d=true
  ·have e:hearH h ⟨5,d,house,ps⟩=noteE h ⟨3,d,[]⟩:=by unfold hearH;simp [hr]
   rw [e] at hc ⊢
   obtain⟨e1,e2⟩:=note3 hmade hr
   obtain⟨x,hx⟩:=find_ready hr
   have e3:(noteE h ⟨3,d,[]⟩).sums=h.sums:=by rw [note_sums hmade,step_sums,hx];simp
   have hsub:∀y∈h.ready.eraseP (isD d),y∈h.ready:=fun y hy=>List.eraseP_sublist.subset hy
   exact⟨hc,by rw [e1];exact fun y hy=>hi.reg y (hsub y hy),by rw [e1,e3];exact fun y hy=>hi.fits y (hsub y hy),by rw [e3];exact hi.right,by rw [e2];exact hi.done,by rw [e2];exact hi.nodup,
    by rw [e1,e2];exact fun y hy=>hi.apart y (hsub y hy),by rw [e3,e2];exact hi.sums,by rw [e3,e2];exact hi.add,hlog 3 (by decide)⟩
  ·rw [show hearH h ⟨5,d,house,ps⟩=h by unfold hearH;simp [hr]]
   exact hi
 ·rw [show hearH h ⟨kind,d,house,ps⟩=h by unfold hearH;simp [k1,k4,k5]]
  exact hi
theorem HI.more {G G':Reg} {D:List Rd} {k:Int} {h:Hs} (hi:HI G D k h) (hG:∀x∈G,x∈G'):HI G' D k h:=
 ⟨hi.calm,fun r hr=>by obtain⟨P,a,b⟩:=hi.reg r hr;exact⟨P,hG _ a,b⟩,hi.fits,hi.right,hi.done,hi.nodup,hi.apart,hi.sums,hi.add,hi.log⟩
theorem sumsOf_more {k:Int} {D:List Rd} {r:Rd}:∀{done:List Int} (s:Sm),(∀d∈done,∃r∈D,r.deed=d)→
  done.foldl (fun s d=>match (D++ [r]).find? (isD d) with|some r=>doP s (ofL r.parts k)|none=>s) s=done.foldl (fun s d=>match D.find? (isD d) with|some r=>doP s (ofL r.parts k)|none=>s) s
 | [],s,_=>rfl
 |d::done,s,h=>by
  obtain⟨x,hx,hd⟩:=h d List.mem_cons_self
  have:(D.find? (isD d)).isSome=true:=by rw [List.find?_isSome];exact⟨x,hx,by simp [isD,hd]⟩
  obtain⟨y,hy⟩:=Option.isSome_iff_exists.1 this
  rw [List.foldl_cons,List.foldl_cons,List.find?_append,hy]
  exact sumsOf_more _ fun e he=>h e (List.mem_cons_of_mem _ he)
theorem HI.dec {G:Reg} {D:List Rd} {k:Int} {h:Hs} {r:Rd} (hi:HI G D k h) (hr:r.deed∉h.done):HI G (D++ [r]) k h:=by
 refine⟨hi.calm,hi.reg,hi.fits,hi.right,fun d hd=>?_,hi.nodup,hi.apart,?_,fun q a b=>?_,hi.log⟩
 ·obtain⟨x,hx,e⟩:=hi.done d hd
  exact⟨x,List.mem_append_left _ hx,e⟩
 ·unfold sumsOf
  rw [sumsOf_more _ fun d hd=>by obtain⟨x,hx,e,-⟩:=hi.done d hd;exact⟨x,hx,e⟩]
  exact hi.sums
 ·rw [List.filter_append,List.filter_cons_of_neg (by simpa using hr),List.filter_nil,List.append_nil]
  exact hi.add q a b
theorem HI.zero (G:Reg) (D:List Rd) (k:Int):HI G D k hs0:=by
 refine⟨calm_zero,by intro r hr;simp [hs0,houseR] at hr,by intro r hr;simp [hs0,houseR] at hr,by decide,by intro r hr;simp [hs0,houseR] at hr,by simp [hs0,houseR],by intro r hr;simp [hs0,houseR] at hr,rfl,?_,by intro r hr;simp [hs0,houseR] at hr⟩
 intro q a b
 have:(D.filter fun r=>decide (r.deed∈hs0.done))=[]:=by
  rw [List.filter_eq_nil_iff];intro x _;simp [hs0,houseR]
 rw [this]
 have hq:q=0∨q=1∨q=2∨q=3:=by omega
 rcases hq with rfl|rfl|rfl|rfl<;>rfl
def rdy (hs:List Hs) (k d:Int):Prop:=∃h,hs[k.toNat]? =some h∧readyE h.ready d=true
def dne (hs:List Hs) (k d:Int):Prop:=∃h,hs[k.toNat]? =some h∧d∈h.done
structure Core (n:Nat) (G:Reg) (hd:Hd) (hs:List Hs):Prop where
 len:hs.length=n
 n3:1≤n∧n≤3
 reg:RegOk G n
 old:∀x∈G,x.1<64*hd.boot+hd.next
 boot:1≤hd.boot∧hd.boot≤20
 next:0≤hd.next∧hd.next≤64
 lboot:(headR hd.log).boot=hd.boot
 lopn:∀d P,(∃o∈(headR hd.log).opn,o.deed=d∧o.parts=P)↔∃o∈hd.opn,o.deed=d∧o.parts=P∧o.dec=true
 lnd:((headR hd.log).opn.map (·.deed)).Nodup
 ldec:∀o∈(headR hd.log).opn,o.dec=true∧o.heard=[]
 ond:(hd.opn.map (·.deed)).Nodup
 oreg:∀o∈hd.opn,(o.deed,o.parts)∈G
 olen:hd.opn.length≤12
 odec:∀o∈hd.opn,(o.dec=true↔∃r∈decidedR hd.log,r.deed=o.deed)
 onew:∀o∈hd.opn,o.heard.Nodup∧(∀k∈o.heard,k∈housesE o.parts)∧o.heard.length<(housesE o.parts).length
 ordy:∀o∈hd.opn,o.dec=false→∀k∈o.heard,rdy hs k o.deed
 odne:∀o∈hd.opn,o.dec=true→∀k∈o.heard,dne hs k o.deed
 dec:DecOk G (decidedR hd.log)
 held:∀r∈decidedR hd.log,∀k∈housesE r.parts,rdy hs k r.deed∨dne hs k r.deed
 ends:∀r∈decidedR hd.log,(∀o∈hd.opn,o.deed≠r.deed)→∀k∈housesE r.parts,dne hs k r.deed
 house:∀(k:Nat) h,hs[k]? =some h→HI G (decidedR hd.log) k h
 ord:(decidedR hd.log).Pairwise fun r1 r2=>∀k q,has k q r1.parts=true→has k q r2.parts=true→dne hs k r1.deed
 pre:∀A B,decidedR hd.log=A++B→∀k q,0≤tot k q A∧tot k q A≤1048576
structure MOk (n:Nat) (G:Reg) (hd:Hd) (hs:List Hs) (m:Ms):Prop where
 right:RightM m
 here:m.house<n
 reg:∃P,(m.deed,P)∈G∧m.house∈housesE P∧(m.kind=1→m.parts=ofL P m.house)
 yes:m.kind=2→∀o∈hd.opn,o.deed=m.deed→o.dec=false→rdy hs m.house m.deed
 commit:m.kind=4→∃r∈decidedR hd.log,r.deed=m.deed
 abort:m.kind=5→((∀r∈decidedR hd.log,r.deed≠m.deed)∧∀o∈hd.opn,o.deed≠m.deed)∨dne hs m.house m.deed
 ack:m.kind=6→dne hs m.house m.deed
theorem set_get {hs:List Hs} {k:Int} {h h':Hs} (hk:hs[k.toNat]? =some h) (j:Int):(hs.set k.toNat h')[j.toNat]? =if j.toNat=k.toNat then some h' else hs[j.toNat]?:=by
 have hl:=(List.getElem?_eq_some_iff.1 hk).1
 by_cases e:j.toNat=k.toNat
 ·rw [if_pos e,e,List.getElem?_set_self hl]
 ·rw [if_neg e,List.getElem?_set_ne (fun e'=>e e'.symm)]
theorem rdy_set {hs:List Hs} {k:Int} {h h':Hs} (hk:hs[k.toNat]? =some h) {j d:Int} (hr:rdy hs j d) (hh:j.toNat=k.toNat→readyE h.ready d=true→readyE h'.ready d=true):rdy (hs.set k.toNat h') j d:=by
 obtain⟨x,hx,hd⟩:=hr
 unfold rdy
 rw [set_get hk]
 by_cases e:j.toNat=k.toNat
 ·rw [if_pos e]
  rw [e,hk] at hx
  obtain rfl:=Option.some.inj hx
  exact⟨_,rfl,hh e hd⟩
 ·rw [if_neg e];exact⟨x,hx,hd⟩
theorem dne_set {hs:List Hs} {k:Int} {h h':Hs} (hk:hs[k.toNat]? =some h) (hh:∀d∈h.done,d∈h'.done) {j d:Int} (hr:dne hs j d):dne (hs.set k.toNat h') j d:=by
 obtain⟨x,hx,hd⟩:=hr
 unfold dne
 rw [set_get hk]
 by_cases e:j.toNat=k.toNat
 ·rw [if_pos e]
  rw [e,hk] at hx
  obtain rfl:=Option.some.inj hx
  exact⟨_,rfl,hh _ hd⟩
 ·rw [if_neg e];exact⟨x,hx,hd⟩
theorem Core.house' {n:Nat} {G:Reg} {hd:Hd} {hs:List Hs} (c:Core n G hd hs) {k:Int} {h:Hs} (h0:0≤k) (hk:hs[k.toNat]? =some h):HI G (decidedR hd.log) k h:=by
 have:=c.house k.toNat h hk
 rwa [show((k.toNat:Nat):Int)=k by omega] at this
theorem Core.ready_parts {n:Nat} {G:Reg} {hd:Hd} {hs:List Hs} (c:Core n G hd hs) {k d:Int} (h0:0≤k) (h:rdy hs k d) {P:List Pt} (hP:(d,P)∈G):
  ∃h,hs[k.toNat]? =some h∧HI G (decidedR hd.log) k h∧(⟨d,ofL P k⟩:Rd)∈h.ready∧d∉h.done:=by
 obtain⟨x,hx,hr⟩:=h
 have hi:=c.house' h0 hx
 obtain⟨y,hy⟩:=find_ready hr
 have hym:=List.mem_of_find?_eq_some hy
 have hyd:y.deed=d:=find_isD hy
 obtain⟨Q,hQ,hp,-⟩:=hi.reg y hym
 rw [hyd] at hQ
 obtain rfl:=reg_same c.reg.nd hQ hP
 refine⟨x,hx,hi,?_,by rw [←hyd];exact hi.apart y hym⟩
 rw [←hyd,←hp];exact hym
theorem Core.not_both {n:Nat} {G:Reg} {hd:Hd} {hs:List Hs} (c:Core n G hd hs) {k d:Int} (h0:0≤k) (h:rdy hs k d):¬dne hs k d:=by
 rintro⟨y,hy,hyd⟩
 obtain⟨x,hx,hr⟩:=h
 rw [hx] at hy
 obtain rfl:=Option.some.inj hy
 have hi:=c.house' h0 hx
 obtain⟨z,hz⟩:=find_ready hr
 have:=hi.apart z (List.mem_of_find?_eq_some hz)
 rw [find_isD hz] at this
 exact this hyd
theorem Core.done_dec {n:Nat} {G:Reg} {hd:Hd} {hs:List Hs} (c:Core n G hd hs) {k d:Int} (h0:0≤k) (h:dne hs k d):∃r∈decidedR hd.log,r.deed=d:=by
 obtain⟨x,hx,hr⟩:=h
 obtain⟨r,a,b,-⟩:=(c.house' h0 hx).done d hr
 exact⟨r,a,b⟩
theorem Core.hear {n:Nat} {G:Reg} {hd:Hd} {hs:List Hs} (c:Core n G hd hs) {m:Ms} (hm:MOk n G hd hs m) {h:Hs} (hk:hs[m.house.toNat]? =some h):
  Core n G hd (hs.set m.house.toNat (hearH h m))∧(∀x,MOk n G hd hs x→MOk n G hd (hs.set m.house.toNat (hearH h m)) x)∧∀x∈hearM h m.house m,MOk n G hd (hs.set m.house.toNat (hearH h m)) x:=by
 have hk0:=hm.right.house.1
 have hi:=c.house' hk0 hk
 obtain⟨P,hP,hPk,hPp⟩:=hm.reg
 have hPne:=(houses_mem.1 hPk).2
 have hmade:=hi.calm.made
 have hi':HI G (decidedR hd.log) m.house (hearH h m):=by
  refine hi.hear c.reg c.dec hm.right rfl (fun h1=>⟨P,hP,hPp h1,by rw [hPp h1];exact hPne⟩) fun h4=>?_
  obtain⟨r,hr,hrd⟩:=hm.commit h4
  have:=c.dec.reg r hr
  rw [hrd] at this
  obtain rfl:=reg_same c.reg.nd this hP
  exact⟨r,hr,hrd,hPne⟩
 have hfine:=hi.calm.fine
 have hdone:∀d∈h.done,d∈(hearH h m).done:=by
  intro d hd'
  unfold hearH
  split
  ·split
   ·rename_i hv
    rw [(note1 hmade _ hv.2).2];exact hd'
   ·exact hd'
  ·split
   ·split
    ·rename_i hr
     rw [(note2 hmade hr).2];exact List.mem_append_left _ hd'
    ·exact hd'
   ·split
    ·split
     ·rename_i hr
      rw [(note3 hmade hr).2];exact hd'
     ·exact hd'
    ·exact hd'
 have hready:∀d,readyE h.ready d=true→readyE (hearH h m).ready d=true∨(d=m.deed∧m.kind=4∧d∈(hearH h m).done)∨(d=m.deed∧m.kind=5):=by
  intro d hr
  unfold hearH
  split
  ·split
   ·rename_i hv
    left
    rw [(note1 hmade _ hv.2).1]
    unfold readyE at hr ⊢
    rw [List.any_append,hr];rfl
   ·exact .inl hr
  ·split
   ·rename_i h4
    split
    ·rename_i hr2
     by_cases e:m.deed=d
     ·right;left
      refine⟨e.symm,h4,?_⟩
      rw [(note2 hmade hr2).2,←e];simp
     ·left
      rw [(note2 hmade hr2).1];exact ready_other hr e
    ·exact .inl hr
   ·split
    ·rename_i h5
     split
     ·rename_i hr2
      by_cases e:m.deed=d
      ·exact .inr (.inr ⟨e.symm,h5⟩)
      ·left
       rw [(note3 hmade hr2).1];exact ready_other hr e
     ·exact .inl hr
    ·exact .inl hr
 have hyes:m.kind=1→voteE h m.deed m.parts=0→readyE (hearH h m).ready m.deed=true:=by
  intro h1 hv
  unfold hearH
  rw [if_pos h1]
  split
  ·rename_i hv2
   rw [(note1 hmade _ hv2.2).1]
   simp [readyE,isD]
  ·rename_i hv2
   cases hr:readyE h.ready m.deed with
   |true=>rfl
   |false=>exact absurd ⟨hv,hr⟩ hv2
 obtain⟨h',hh'⟩:∃x,x=hearH h m:=⟨_,rfl⟩
 rw [←hh'] at hi' hdone hready hyes ⊢
 have D1:∀{j d:Int},dne hs j d→dne (hs.set m.house.toNat h') j d:=fun hx=>dne_set hk hdone hx
 have hund:∀o∈hd.opn,o.dec=false→m.kind=4→o.deed≠m.deed:=by
  intro o ho hod h4 e
  obtain⟨r,hr,hrd⟩:=hm.commit h4
  have:=(c.odec o ho).2 ⟨r,hr,by rw [hrd,e]⟩
  rw [hod] at this;cases this
 have hab:m.kind=5→readyE h.ready m.deed=true→(∀r∈decidedR hd.log,r.deed≠m.deed)∧∀o∈hd.opn,o.deed≠m.deed:=by
  intro h5 hr
  rcases hm.abort h5 with hx|hx
  ·exact hx
  ·exact absurd hx (c.not_both hk0 ⟨h,hk,hr⟩)
 have R1:∀{j d:Int},rdy hs j d→(∃r∈decidedR hd.log,r.deed=d)→0≤j→rdy (hs.set m.house.toNat h') j d∨dne (hs.set m.house.toNat h') j d:=by
  intro j d hr hdD hj
  by_cases e:j.toNat=m.house.toNat
  ·obtain rfl:j=m.house:=by omega
   obtain⟨x,hx,hxr⟩:=hr
   rw [hk] at hx
   obtain rfl:=Option.some.inj hx
   rcases hready d hxr with h1|⟨h1,h2,h3⟩|⟨h1,h2⟩
   ·exact .inl (rdy_set hk ⟨h,hk,hxr⟩ fun _ _=>h1)
   ·right
    refine⟨h',?_,h3⟩
    rw [set_get hk,if_pos rfl]
   ·subst h1
    obtain⟨r,hrD,hrd⟩:=hdD
    exact absurd hrd ((hab h2 hxr).1 r hrD)
  ·exact .inl (rdy_set hk hr fun e'=>absurd e' e)
 have R2:∀{j d:Int},rdy hs j d→(∃o∈hd.opn,o.deed=d∧o.dec=false)→rdy (hs.set m.house.toNat h') j d:=by
  intro j d hr ⟨o,ho,hod,hoc⟩
  refine rdy_set hk hr fun _ hxr=>?_
  rcases hready d hxr with h1|⟨h1,h2,-⟩|⟨h1,h2⟩
  ·exact h1
  ·exact absurd (hod.trans h1) (hund o ho hoc h2)
  ·subst h1
   exact absurd hod ((hab h2 hxr).2 o ho)
 have hc':Core n G hd (hs.set m.house.toNat h'):={
  len:=by rw [List.length_set];exact c.len
  n3:=c.n3
  reg:=c.reg
  old:=c.old
  boot:=c.boot
  next:=c.next
  lboot:=c.lboot
  lopn:=c.lopn
  lnd:=c.lnd
  ldec:=c.ldec
  ond:=c.ond
  oreg:=c.oreg
  olen:=c.olen
  odec:=c.odec
  onew:=c.onew
  ordy:=fun o ho hoc k hk'=>R2 (c.ordy o ho hoc k hk') ⟨o,ho,rfl,hoc⟩
  odne:=fun o ho hoc k hk'=>D1 (c.odne o ho hoc k hk')
  dec:=c.dec
  held:=fun r hr k hk'=>by
   rcases c.held r hr k hk' with hx|hx
   ·exact R1 hx ⟨r,hr,rfl⟩ (by have:=(houses_mem.1 hk').1;omega)
   ·exact .inr (D1 hx)
  ends:=fun r hr ho k hk'=>D1 (c.ends r hr ho k hk')
  house:=fun k x hx=>by
   by_cases e:k=m.house.toNat
   ·subst e
    rw [List.getElem?_set_self (List.getElem?_eq_some_iff.1 hk).1] at hx
    obtain rfl:=Option.some.inj hx
    rwa [show((m.house.toNat:Nat):Int)=m.house by omega]
   ·rw [List.getElem?_set_ne (fun e'=>e e'.symm)] at hx
    exact c.house k x hx
  ord:=c.ord.imp fun hx k q h1 h2=>D1 (hx k q h1 h2)
  pre:=c.pre }
 have hM:∀x,MOk n G hd hs x→MOk n G hd (hs.set m.house.toNat h') x:=fun x hx=>{
  right:=hx.right
  here:=hx.here
  reg:=hx.reg
  yes:=fun h2 o ho hod hoc=>R2 (hx.yes h2 o ho hod hoc) ⟨o,ho,hod,hoc⟩
  commit:=hx.commit
  abort:=fun h5=>by
   rcases hx.abort h5 with hy|hy
   ·exact .inl hy
   ·exact .inr (D1 hy)
  ack:=fun h6=>D1 (hx.ack h6) }
 refine⟨hc',hM,?_⟩
 have hget:(hs.set m.house.toNat h')[m.house.toNat]? =some h':=by rw [set_get hk,if_pos rfl]
 have hR:∀kd:Int,1<kd→kd≤7→RightM ⟨kd,m.deed,m.house,[]⟩:=fun kd a b=>⟨⟨by show 1≤kd;omega,b⟩,hm.right.deed,hm.right.house,fun _=>rfl,fun e=>absurd (show kd=1 from e) (by omega)⟩
 intro x hx
 unfold hearM at hx
 split at hx
 ·rename_i h1
  split at hx
  ·simp at hx
  ·split at hx
   ·rename_i hv
    obtain rfl:=List.mem_singleton.1 hx
    exact⟨hR 2 (by omega) (by omega),hm.here,⟨P,hP,hPk,(fun e=>by cases e)⟩,fun _ _ _ _ _=>⟨h',hget,hyes h1 hv⟩,(fun e=>by cases e),(fun e=>by cases e),(fun e=>by cases e)⟩
   ·obtain rfl:=List.mem_singleton.1 hx
    exact⟨hR 3 (by omega) (by omega),hm.here,⟨P,hP,hPk,(fun e=>by cases e)⟩,(fun e=>by cases e),(fun e=>by cases e),(fun e=>by cases e),(fun e=>by cases e)⟩
 ·split at hx
  ·rw [←hh'] at hx
   split at hx
   ·rename_i hd6
    obtain rfl:=List.mem_singleton.1 hx
    exact⟨hR 6 (by omega) (by omega),hm.here,⟨P,hP,hPk,(fun e=>by cases e)⟩,(fun e=>by cases e),(fun e=>by cases e),(fun e=>by cases e),fun _=>⟨h',hget,hd6⟩⟩
   ·simp at hx
  ·simp at hx
theorem hearL_none {m:Ms}:∀{l:List Opn},hearL m l=none→∀o∈l,o.deed≠m.deed
 | [],_=>by simp
 |o::l,h=>by
  unfold hearL at h
  split at h
  ·cases h
  ·rename_i hne
   intro x hx
   rcases List.mem_cons.1 hx with rfl|hx
   ·exact hne
   ·exact hearL_none (by simpa using h) x hx
theorem hearL_some {m:Ms}:∀{l:List Opn} {x:List Opn×List Rc×List Ms},hearL m l=some x→∃A o B,l=A++o::B∧(∀y∈A,y.deed≠m.deed)∧o.deed=m.deed∧x=(A++(hearO o m).1++B,(hearO o m).2)
 | [],x,h=>by cases h
 |o::l,x,h=>by
  unfold hearL at h
  split at h
  ·rename_i he
   obtain rfl:=Option.some.inj h
   exact⟨[],o,l,rfl,by simp,he,rfl⟩
  ·rename_i hne
   cases hl:hearL m l with
   |none=>rw [hl] at h;cases h
   |some y=>
    rw [hl] at h
    obtain⟨A,p,B,e1,e2,e3,e4⟩:=hearL_some hl
    refine⟨o::A,p,B,by rw [e1];rfl,?_,e3,?_⟩
    ·intro z hz
     rcases List.mem_cons.1 hz with rfl|hz
     ·exact hne
     ·exact e2 z hz
    ·simp only [Option.map_some,Option.some.injEq] at h
     rw [←h,e4]
     simp
theorem all_in:∀{a b:List Int},a.Nodup→(∀k∈a,k∈b)→b.length≤a.length→∀k∈b,k∈a
 | [],b,_,_,hl=>by
  obtain rfl:b=[]:=List.eq_nil_of_length_eq_zero (by simpa using hl)
  intro k hk;simp at hk
 |x::a,b,hn,hs,hl=>by
  rw [List.nodup_cons] at hn
  have hx:=hs x List.mem_cons_self
  have ih:=all_in (a:=a) (b:=b.erase x) hn.2 (fun k hk=>(List.mem_erase_of_ne (fun e=>hn.1 (by rw [←e];exact hk))).2 (hs k (List.mem_cons_of_mem _ hk))) (by rw [List.length_erase_of_mem hx];simp at hl;omega)
  intro k hk
  by_cases e:k=x
  ·rw [e];exact List.mem_cons_self
  ·exact List.mem_cons_of_mem _ (ih k ((List.mem_erase_of_ne e).2 hk))
theorem len_le:∀{a b:List Int},a.Nodup→(∀k∈a,k∈b)→a.length≤b.length
 | [],_,_,_=>Nat.zero_le _
 |x::a,b,hn,hs=>by
  rw [List.nodup_cons] at hn
  have hx:=hs x List.mem_cons_self
  have ih:=len_le (a:=a) (b:=b.erase x) hn.2 fun k hk=>(List.mem_erase_of_ne (fun e=>hn.1 (by rw [←e];exact hk))).2 (hs k (List.mem_cons_of_mem _ hk))
  rw [List.length_erase_of_mem hx] at ih
  have:=List.length_pos_of_mem hx
  simp only [List.length_cons]
  omega
theorem open_deed {A B:List Opn} {o x:Opn} (hn:((A++o::B).map (·.deed)).Nodup) (hx:x∈A++B):x.deed≠o.deed:=by
 rw [List.map_append,List.map_cons,List.nodup_append] at hn
 obtain⟨-,h2,h3⟩:=hn
 rw [List.nodup_cons] at h2
 rcases List.mem_append.1 hx with hx|hx
 ·intro e
  exact h3 _ (List.mem_map.2 ⟨x,hx,rfl⟩) _ (by rw [e];exact List.mem_cons_self) rfl
 ·intro e
  exact h2.1 (List.mem_map.2 ⟨x,hx,e⟩)
theorem wrongGo_zero {h:Int}:∀{l:List Pt} {had:List (Int×Int)},(∀p∈l,badPt p h=false)→(∀p∈l,(p.h,p.k)∉had)→(l.map fun p=>(p.h,p.k)).Nodup→wrongGo h had l=0
 | [],_,_,_,_=>rfl
 |p::l,had,h1,h2,h3=>by
  rw [List.map_cons,List.nodup_cons] at h3
  unfold wrongGo
  rw [if_neg (by simp [h1 p List.mem_cons_self]),if_neg (h2 p List.mem_cons_self)]
  refine wrongGo_zero (fun q hq=>h1 q (List.mem_cons_of_mem _ hq)) (fun q hq hm=>?_) h3.2
  rcases List.mem_cons.1 hm with e|hm
  ·exact h3.1 (List.mem_map.2 ⟨q,hq,e⟩)
  ·exact h2 q (List.mem_cons_of_mem _ hq) hm
theorem wrong_iff {l:List Pt} {h:Int}:wrongE l h=0↔0<l.length∧l.length≤4∧(∀p∈l,0≤p.h∧p.h<h∧0≤p.k∧p.k<4∧p.n≤1048576∧-1048576≤p.n)∧(l.map fun p=>(p.h,p.k)).Nodup:=by
 refine⟨wrong_ok,fun⟨h1,h2,h3,h4⟩=>?_⟩
 unfold wrongE
 rw [if_neg (by omega)]
 refine wrongGo_zero (fun p hp=>?_) (by simp) h4
 unfold badPt
 rw [decide_eq_false_iff_not]
 have:=h3 p hp
 omega
theorem wrong_ofL {P:List Pt} {n k:Int} (hw:wrongE P n=0) (hn:n≤3) (hne:ofL P k≠ []):wrongE (ofL P k) 3=0∧∀p∈ofL P k,p.h=k:=by
 obtain⟨h1,h2,h3,h4⟩:=wrong_ok hw
 have hs:(ofL P k).Sublist P:=List.filter_sublist
 refine⟨wrong_iff.2 ⟨List.length_pos_iff.2 hne,Nat.le_trans hs.length_le h2,fun p hp=>?_,h4.sublist (hs.map _)⟩,fun p hp=>?_⟩
 ·have:=h3 p (hs.subset hp)
  omega
 ·unfold ofL at hp
  simpa using (List.mem_filter.1 hp).2
theorem mem_swap {A B:List Opn} {o o':Opn} {p:Opn→Prop} (h:p o'↔p o):(∃x∈A++ [o']++B,p x)↔∃x∈A++o::B,p x:=by
 constructor
 ·rintro⟨x,hx,hp⟩
  simp only [List.mem_append,List.mem_singleton] at hx
  rcases hx with(hx|rfl)|hx
  ·exact⟨x,by simp [hx],hp⟩
  ·exact⟨o,by simp,h.1 hp⟩
  ·exact⟨x,by simp [hx],hp⟩
 ·rintro⟨x,hx,hp⟩
  simp only [List.mem_append,List.mem_cons] at hx
  rcases hx with hx|rfl|hx
  ·exact⟨x,by simp [hx],hp⟩
  ·exact⟨o',by simp,h.2 hp⟩
  ·exact⟨x,by simp [hx],hp⟩
theorem all_swap {A B:List Opn} {o o':Opn} {p:Opn→Prop} (h:∀x∈A++o::B,p x) (h':p o'):∀x∈A++ [o']++B,p x:=by
 intro x hx
 simp only [List.mem_append,List.mem_singleton] at hx
 rcases hx with(hx|rfl)|hx
 ·exact h x (by simp [hx])
 ·exact h'
 ·exact h x (by simp [hx])
theorem MOk.head {n:Nat} {G G':Reg} {hd hd':Hd} {hs:List Hs} {m:Ms} (h:MOk n G hd hs m) (hG:∀x∈G,x∈G') (hD:∀r∈decidedR hd.log,r∈decidedR hd'.log)
  (hy:∀o'∈hd'.opn,o'.dec=false→o'.deed=m.deed→∃o∈hd.opn,o.deed=o'.deed∧o.dec=false)
  (ha:(∀r∈decidedR hd.log,r.deed≠m.deed)→(∀o∈hd.opn,o.deed≠m.deed)→(∀r∈decidedR hd'.log,r.deed≠m.deed)∧∀o∈hd'.opn,o.deed≠m.deed):MOk n G' hd' hs m where
 right:=h.right
 here:=h.here
 reg:=by obtain⟨P,a,b⟩:=h.reg;exact⟨P,hG _ a,b⟩
 yes:=fun h2 o' ho hod hoc=>by
  obtain⟨o,a,b,c⟩:=hy o' ho hoc hod
  exact h.yes h2 o a (b.trans hod) c
 commit:=fun h4=>by obtain⟨r,a,b⟩:=h.commit h4;exact⟨r,hD r a,b⟩
 abort:=fun h5=>by
  rcases h.abort h5 with hx|hx
  ·exact .inl (ha hx.1 hx.2)
  ·exact .inr hx
 ack:=h.ack
variable {n:Nat} {G:Reg} {hd:Hd} {hs:List Hs}
theorem Core.heard (c:Core n G hd hs) {A B:List Opn} {o:Opn} (e:hd.opn=A++o::B) {k:Int} (hk:k∈housesE o.parts) (hn:k∉o.heard) (hl:o.heard.length+1≠(housesE o.parts).length)
  (h1:o.dec=false→rdy hs k o.deed) (h2:o.dec=true→dne hs k o.deed):Core n G { hd with opn:=A++ [{ o with heard:=o.heard++ [k] }]++B } hs:=by
 have ho:o∈hd.opn:=by rw [e];simp
 have hw:=c.onew o ho
 exact {
  len:=c.len,n3:=c.n3,reg:=c.reg,old:=c.old,boot:=c.boot,next:=c.next,lboot:=c.lboot,lnd:=c.lnd,ldec:=c.ldec,dec:=c.dec,held:=c.held,house:=c.house,ord:=c.ord,pre:=c.pre
  lopn:=fun d P=>by rw [c.lopn d P,e];exact(mem_swap (o:=o) (o':={ o with heard:=o.heard++ [k] }) (p:=fun x=>x.deed=d∧x.parts=P∧x.dec=true) Iff.rfl).symm
  ond:=by have:=c.ond;rw [e] at this;simpa using this
  oreg:=by have:=c.oreg;rw [e] at this;exact all_swap this (c.oreg o ho)
  olen:=by have:=c.olen;rw [e] at this;simpa using this
  odec:=by have:=c.odec;rw [e] at this;exact all_swap this (c.odec o ho)
  onew:=by
   have:=c.onew;rw [e] at this
   refine all_swap this ⟨?_,?_,?_⟩
   ·rw [List.nodup_append]
    refine⟨hw.1,by simp,fun a ha b hb e=>?_⟩
    obtain rfl:=List.mem_singleton.1 hb
    exact hn (e▸ha)
   ·intro j hj
    rcases List.mem_append.1 hj with hj|hj
    ·exact hw.2.1 j hj
    ·obtain rfl:=List.mem_singleton.1 hj;exact hk
   ·have:=hw.2.2
    rw [List.length_append,List.length_singleton]
    show _<(housesE o.parts).length
    omega
  ordy:=by
   have:=c.ordy;rw [e] at this
   refine all_swap this fun hd j hj=>?_
   rcases List.mem_append.1 hj with hj|hj
   ·exact c.ordy o ho hd j hj
   ·obtain rfl:=List.mem_singleton.1 hj;exact h1 hd
  odne:=by
   have:=c.odne;rw [e] at this
   refine all_swap this fun hd j hj=>?_
   rcases List.mem_append.1 hj with hj|hj
   ·exact c.odne o ho hd j hj
   ·obtain rfl:=List.mem_singleton.1 hj;exact h2 hd
  ends:=fun r hr hno j hj=>by
   refine c.ends r hr ?_ j hj
   rw [e]
   intro x hx
   simp only [List.mem_append,List.mem_cons] at hx
   rcases hx with hx|rfl|hx
   ·exact hno x (by simp [hx])
   ·exact hno { x with heard:=x.heard++ [k] } (by simp)
   ·exact hno x (by simp [hx]) }
theorem MOk.heard {m:Ms} (h:MOk n G hd hs m) {A B:List Opn} {o:Opn} (e:hd.opn=A++o::B) (k:Int):MOk n G { hd with opn:=A++ [{ o with heard:=o.heard++ [k] }]++B } hs m:=by
 refine h.head (fun _ h=>h) (fun _ h=>h) (fun o' ho hoc hod=>?_) fun h1 h2=>⟨h1,?_⟩
 ·simp only [List.mem_append,List.mem_singleton] at ho
  rcases ho with(ho|rfl)|ho
  ·exact⟨o',by rw [e];simp [ho],rfl,hoc⟩
  ·exact⟨o,by rw [e];simp,rfl,hoc⟩
  ·exact⟨o',by rw [e];simp [ho],rfl,hoc⟩
 ·rw [e] at h2
  exact all_swap h2 (h2 o (by simp))
theorem Core.drop (c:Core n G hd hs) {l:List Opn} (hs':l.Sublist hd.opn) (hu:∀o∈hd.opn,o∉l→o.dec=false):Core n G { hd with opn:=l } hs where
 len:=c.len
 n3:=c.n3
 reg:=c.reg
 old:=c.old
 boot:=c.boot
 next:=c.next
 lboot:=c.lboot
 lnd:=c.lnd
 ldec:=c.ldec
 dec:=c.dec
 held:=c.held
 house:=c.house
 ord:=c.ord
 pre:=c.pre
 lopn:=fun d P=>by
  rw [c.lopn d P]
  constructor
  ·rintro⟨o,ho,h1,h2,h3⟩
   refine⟨o,?_,h1,h2,h3⟩
   by_cases hl:o∈l
   ·exact hl
   ·rw [hu o ho hl] at h3;cases h3
  ·rintro⟨o,ho,h1⟩
   exact⟨o,hs'.subset ho,h1⟩
 ond:=c.ond.sublist (hs'.map _)
 oreg:=fun o ho=>c.oreg o (hs'.subset ho)
 olen:=Nat.le_trans hs'.length_le c.olen
 odec:=fun o ho=>c.odec o (hs'.subset ho)
 onew:=fun o ho=>c.onew o (hs'.subset ho)
 ordy:=fun o ho=>c.ordy o (hs'.subset ho)
 odne:=fun o ho=>c.odne o (hs'.subset ho)
 ends:=fun r hr hno=>by
  refine c.ends r hr fun o ho e=>?_
  have h1:=(c.odec o ho).2 ⟨r,hr,e.symm⟩
  by_cases hl:o∈l
  ·exact hno o hl e
  ·rw [hu o ho hl] at h1;cases h1
theorem MOk.drop {m:Ms} (h:MOk n G hd hs m) {l:List Opn} (hs':l.Sublist hd.opn):MOk n G { hd with opn:=l } hs m:=
 h.head (fun _ h=>h) (fun _ h=>h) (fun o' ho hoc _=>⟨o',hs'.subset ho,rfl,hoc⟩) fun h1 h2=>⟨h1,fun o ho=>h2 o (hs'.subset ho)⟩
theorem Core.end' (c:Core n G hd hs) {A B:List Opn} {o:Opn} (e:hd.opn=A++o::B) (hd1:o.dec=true) (hall:∀k∈housesE o.parts,dne hs k o.deed):Core n G { hd with opn:=A++B,log:=hd.log++ [⟨6,o.deed,[]⟩] } hs:=by
 have ho:o∈hd.opn:=by rw [e];simp
 have hsub:(A++B).Sublist hd.opn:=by rw [e];exact(List.Sublist.refl A).append (List.sublist_cons_self o B)
 have hon:=c.ond
 rw [e] at hon
 have hD:decidedR (hd.log++ [⟨6,o.deed,[]⟩])=decidedR hd.log:=by rw [dec_snoc];rfl
 have hL:(headR (hd.log++ [⟨6,o.deed,[]⟩])).opn=(headR hd.log).opn.filter fun x=>!(x.deed==o.deed):=by rw [head_snoc];rfl
 have hb:(headR (hd.log++ [⟨6,o.deed,[]⟩])).boot=(headR hd.log).boot:=by rw [head_snoc];rfl
 exact {
  len:=c.len,n3:=c.n3,reg:=c.reg,old:=c.old,boot:=c.boot,next:=c.next
  lboot:=by show(headR (hd.log++_)).boot=_;rw [hb];exact c.lboot
  lnd:=by show((headR (hd.log++_)).opn.map _).Nodup;rw [hL];exact c.lnd.sublist (List.filter_sublist.map _)
  ldec:=fun x hx=>by
   have hx:x∈(headR (hd.log++ [⟨6,o.deed,[]⟩])).opn:=hx
   rw [hL] at hx
   exact c.ldec x (List.mem_filter.1 hx).1
  dec:=by show DecOk G (decidedR (hd.log++_));rw [hD];exact c.dec
  held:=by show∀r∈decidedR (hd.log++_),_;rw [hD];exact c.held
  house:=by show∀(k:Nat) h,_→HI G (decidedR (hd.log++_)) k h;rw [hD];exact c.house
  ord:=by show(decidedR (hd.log++_)).Pairwise _;rw [hD];exact c.ord
  pre:=by show∀A B,decidedR (hd.log++_)=A++B→_;rw [hD];exact c.pre
  lopn:=fun d P=>by
   show(∃x∈(headR (hd.log++_)).opn,_)↔_
   rw [hL]
   constructor
   ·rintro⟨x,hx,h1,h2⟩
    obtain⟨hx1,hx2⟩:=List.mem_filter.1 hx
    obtain⟨y,hy,h3,h4,h5⟩:=(c.lopn d P).1 ⟨x,hx1,h1,h2⟩
    refine⟨y,?_,h3,h4,h5⟩
    rw [e] at hy
    simp only [List.mem_append,List.mem_cons] at hy ⊢
    rcases hy with hy|rfl|hy
    ·exact .inl hy
    ·rw [h1,h3] at hx2;simp at hx2
    ·exact .inr hy
   ·rintro⟨y,hy,h3,h4,h5⟩
    obtain⟨x,hx,h1,h2⟩:=(c.lopn d P).2 ⟨y,hsub.subset hy,h3,h4,h5⟩
    refine⟨x,List.mem_filter.2 ⟨hx,?_⟩,h1,h2⟩
    have:=open_deed hon hy
    rw [h1,←h3];simpa using this
  ond:=c.ond.sublist (hsub.map _)
  oreg:=fun o ho=>c.oreg o (hsub.subset ho)
  olen:=Nat.le_trans hsub.length_le c.olen
  odec:=fun x hx=>by show x.dec=true↔∃r∈decidedR (hd.log++_),_;rw [hD];exact c.odec x (hsub.subset hx)
  onew:=fun o ho=>c.onew o (hsub.subset ho)
  ordy:=fun o ho=>c.ordy o (hsub.subset ho)
  odne:=fun o ho=>c.odne o (hsub.subset ho)
  ends:=fun r hr hno j hj=>by
   have hr:r∈decidedR (hd.log++ [⟨6,o.deed,[]⟩]):=hr
   rw [hD] at hr
   by_cases hro:r.deed=o.deed
   ·have h1:=c.dec.reg r hr
    rw [hro] at h1 ⊢
    rw [reg_same c.reg.nd h1 (c.oreg o ho)] at hj
    exact hall j hj
   ·refine c.ends r hr ?_ j hj
    rw [e]
    intro x hx
    simp only [List.mem_append,List.mem_cons] at hx
    rcases hx with hx|rfl|hx
    ·exact hno x (by simp [hx])
    ·exact fun e=>hro e.symm
    ·exact hno x (by simp [hx]) }
theorem MOk.end' {m:Ms} (h:MOk n G hd hs m) {A B:List Opn} {o:Opn} (e:hd.opn=A++o::B):MOk n G { hd with opn:=A++B,log:=hd.log++ [⟨6,o.deed,[]⟩] } hs m:=by
 have hsub:(A++B).Sublist hd.opn:=by rw [e];exact(List.Sublist.refl A).append (List.sublist_cons_self o B)
 have hD:decidedR (hd.log++ [⟨6,o.deed,[]⟩])=decidedR hd.log:=by rw [dec_snoc];rfl
 refine h.head (fun _ h=>h) (fun r hr=>?_) (fun o' ho hoc _=>⟨o',hsub.subset ho,rfl,hoc⟩) fun h1 h2=>⟨?_,fun o ho=>h2 o (hsub.subset ho)⟩
 ·show r∈decidedR (hd.log++_)
  rw [hD];exact hr
 ·show∀r∈decidedR (hd.log++_),_
  rw [hD];exact h1
theorem pre_snoc {D A B:List Rd} {r:Rd} (h:D++ [r]=A++B):(∃B',D=A++B')∨A=D++ [r]:=by
 rcases List.eq_nil_or_concat B with rfl|⟨B',x,rfl⟩
 ·right;simpa using h.symm
 ·left
  rw [List.concat_eq_append,←List.append_assoc] at h
  exact⟨B',(List.append_inj' h rfl).1⟩
theorem Core.commit (c:Core n G hd hs) {A B:List Opn} {o:Opn} (e:hd.opn=A++o::B) (hu:o.dec=false) (hall:∀k∈housesE o.parts,rdy hs k o.deed):
  Core n G { hd with opn:=A++ [{ o with dec:=true,heard:=[] }]++B,log:=hd.log++ [⟨5,o.deed,o.parts⟩] } hs:=by
 have ho:o∈hd.opn:=by rw [e];simp
 have hoG:=c.oreg o ho
 have hw:wrongE o.parts n=0:=(c.reg.ok _ hoG).2
 have hn3:(n:Int)≤3:=by have:=c.n3;omega
 have hon:=c.ond
 rw [e] at hon
 have hD:decidedR (hd.log++ [⟨5,o.deed,o.parts⟩])=decidedR hd.log++ [⟨o.deed,o.parts⟩]:=by rw [dec_snoc];rfl
 have hL:(headR (hd.log++ [⟨5,o.deed,o.parts⟩])).opn=(headR hd.log).opn++ [⟨o.deed,o.parts,true,[]⟩]:=by rw [head_snoc];rfl
 have hb:(headR (hd.log++ [⟨5,o.deed,o.parts⟩])).boot=(headR hd.log).boot:=by rw [head_snoc];rfl
 have hnD:∀r∈decidedR hd.log,r.deed≠o.deed:=by
  intro r hr he
  have:=(c.odec o ho).2 ⟨r,hr,he⟩
  rw [hu] at this;cases this
 have hAB:∀x∈A++B,x∈hd.opn∧x.deed≠o.deed:=fun x hx=>⟨by rw [e];simp only [List.mem_append,List.mem_cons] at hx ⊢;rcases hx with hx|hx<;>simp [hx],open_deed hon hx⟩
 have hin:∀x,x∈A++ [{ o with dec:=true,heard:=[] }]++B→x={ o with dec:=true,heard:=[] }∨x∈A++B:=by
  intro x hx
  simp only [List.mem_append,List.mem_singleton] at hx ⊢
  rcases hx with(hx|hx)|hx
  ·exact .inr (.inl hx)
  ·exact .inl hx
  ·exact .inr (.inr hx)
 have hin':∀x,x∈A++B→x∈A++ [{ o with dec:=true,heard:=[] }]++B:=by
  intro x hx
  simp only [List.mem_append] at hx ⊢
  rcases hx with hx|hx
  ·exact .inl (.inl hx)
  ·exact .inr hx
 have hout:∀x∈hd.opn,x=o∨x∈A++B:=by
  intro x hx
  rw [e] at hx
  simp only [List.mem_append,List.mem_cons] at hx ⊢
  rcases hx with hx|hx|hx
  ·exact .inr (.inl hx)
  ·exact .inl hx
  ·exact .inr (.inr hx)
 have hord:∀r∈decidedR hd.log,∀k q,has k q r.parts=true→has k q o.parts=true→dne hs k r.deed:=by
  intro r hr k q h1 h2
  have hrG:=c.dec.reg r hr
  have hk1:=(has_houses (c.reg.ok _ hrG).2 hn3 h1).1
  have hk2:=(has_houses hw hn3 h2).1
  have hk0:0≤k:=(houses_lt hw hk2).1
  rcases c.held r hr k hk1 with hx|hx
  ·obtain⟨h,a1,a2,a3,-⟩:=c.ready_parts hk0 hx hrG
   obtain⟨h',b1,b2,b3,-⟩:=c.ready_parts hk0 (hall k hk2) hoG
   rw [a1] at b1
   obtain rfl:=Option.some.inj b1
   have e1:=who_deed a2.calm.apart _ a3 (has_keys h1)
   have e2:=who_deed a2.calm.apart _ b3 (has_keys h2)
   simp only at e1 e2
   exact absurd (by rw [←e1,e2]) (hnD r hr)
  ·exact hx
 exact {
  len:=c.len,n3:=c.n3,reg:=c.reg,old:=c.old,boot:=c.boot,next:=c.next
  lboot:=by show(headR (hd.log++_)).boot=_;rw [hb];exact c.lboot
  lnd:=by
   show((headR (hd.log++_)).opn.map _).Nodup
   rw [hL,List.map_append,List.nodup_append]
   refine⟨c.lnd,by simp,fun a ha b hb' he=>?_⟩
   obtain⟨x,hx,rfl⟩:=List.mem_map.1 ha
   simp only [List.map_cons,List.map_nil,List.mem_singleton] at hb'
   obtain⟨y,hy,h1,-,h3⟩:=(c.lopn x.deed x.parts).1 ⟨x,hx,rfl,rfl⟩
   rcases hout y hy with rfl|hy
   ·rw [hu] at h3;cases h3
   ·exact(hAB y hy).2 (by rw [h1,he,hb'])
  ldec:=fun x hx=>by
   have hx:x∈(headR (hd.log++ [⟨5,o.deed,o.parts⟩])).opn:=hx
   rw [hL] at hx
   rcases List.mem_append.1 hx with hx|hx
   ·exact c.ldec x hx
   ·obtain rfl:=List.mem_singleton.1 hx;exact⟨rfl,rfl⟩
  lopn:=fun d P=>by
   show(∃x∈(headR (hd.log++_)).opn,_)↔_
   rw [hL]
   constructor
   ·rintro⟨x,hx,h1,h2⟩
    rcases List.mem_append.1 hx with hx|hx
    ·obtain⟨y,hy,h3,h4,h5⟩:=(c.lopn d P).1 ⟨x,hx,h1,h2⟩
     rcases hout y hy with rfl|hy
     ·rw [hu] at h5;cases h5
     ·exact⟨y,hin' y hy,h3,h4,h5⟩
    ·obtain rfl:=List.mem_singleton.1 hx
     exact⟨{ o with dec:=true,heard:=[] },by simp,h1,h2,rfl⟩
   ·rintro⟨y,hy,h3,h4,h5⟩
    rcases hin y hy with rfl|hy
    ·exact⟨⟨o.deed,o.parts,true,[]⟩,by simp,h3,h4⟩
    ·obtain⟨x,hx,h1⟩:=(c.lopn d P).2 ⟨y,(hAB y hy).1,h3,h4,h5⟩
     exact⟨x,List.mem_append_left _ hx,h1⟩
  ond:=by simpa using hon
  oreg:=fun x hx=>by
   rcases hin x hx with rfl|hx
   ·exact hoG
   ·exact c.oreg x (hAB x hx).1
  olen:=by have:=c.olen;rw [e] at this;simpa using this
  odec:=fun x hx=>by
   show x.dec=true↔∃r∈decidedR (hd.log++_),_
   rw [hD]
   rcases hin x hx with rfl|hx
   ·exact⟨fun _=>⟨⟨o.deed,o.parts⟩,by simp,rfl⟩,fun _=>rfl⟩
   ·obtain⟨h1,h2⟩:=hAB x hx
    rw [c.odec x h1]
    constructor
    ·rintro⟨r,hr,he⟩;exact⟨r,List.mem_append_left _ hr,he⟩
    ·rintro⟨r,hr,he⟩
     rcases List.mem_append.1 hr with hr|hr
     ·exact⟨r,hr,he⟩
     ·obtain rfl:=List.mem_singleton.1 hr;exact absurd he.symm h2
  onew:=fun x hx=>by
   rcases hin x hx with rfl|hx
   ·exact⟨List.nodup_nil,by simp,houses_some hw hn3⟩
   ·exact c.onew x (hAB x hx).1
  ordy:=fun x hx hxd=>by
   rcases hin x hx with rfl|hx
   ·cases hxd
   ·exact c.ordy x (hAB x hx).1 hxd
  odne:=fun x hx hxd=>by
   rcases hin x hx with rfl|hx
   ·intro k hk;simp at hk
   ·exact c.odne x (hAB x hx).1 hxd
  dec:=by
   show DecOk G (decidedR (hd.log++_))
   rw [hD]
   refine⟨fun r hr=>?_,?_⟩
   ·rcases List.mem_append.1 hr with hr|hr
    ·exact c.dec.reg r hr
    ·obtain rfl:=List.mem_singleton.1 hr;exact hoG
   ·rw [List.map_append,List.nodup_append]
    refine⟨c.dec.nd,by simp,fun a ha b hb' he=>?_⟩
    obtain⟨r,hr,rfl⟩:=List.mem_map.1 ha
    simp only [List.map_cons,List.map_nil,List.mem_singleton] at hb'
    exact hnD r hr (he.trans hb')
  held:=by
   show∀r∈decidedR (hd.log++_),_
   rw [hD]
   intro r hr k hk
   rcases List.mem_append.1 hr with hr|hr
   ·exact c.held r hr k hk
   ·obtain rfl:=List.mem_singleton.1 hr;exact .inl (hall k hk)
  ends:=by
   show∀r∈decidedR (hd.log++_),_
   rw [hD]
   intro r hr hno
   rcases List.mem_append.1 hr with hr|hr
   ·refine c.ends r hr fun x hx=>?_
    rcases hout x hx with hx|hx
    ·rw [hx];exact fun e=>hnD r hr e.symm
    ·exact hno x (hin' x hx)
   ·obtain rfl:=List.mem_singleton.1 hr
    exact absurd rfl (hno { o with dec:=true,heard:=[] } (by simp))
  house:=by
   show∀(k:Nat) h,_→HI G (decidedR (hd.log++_)) k h
   rw [hD]
   intro k h hk
   refine(c.house k h hk).dec fun hx=>?_
   obtain⟨r,a,b⟩:=c.done_dec (k:=(k:Int)) (by omega) ⟨h,by simpa using hk,hx⟩
   exact hnD r a b
  ord:=by
   show(decidedR (hd.log++_)).Pairwise _
   rw [hD,List.pairwise_append]
   refine⟨c.ord,List.pairwise_singleton _ _,fun a ha b hb' k q h1 h2=>?_⟩
   obtain rfl:=List.mem_singleton.1 hb'
   exact hord a ha k q h1 h2
  pre:=by
   show∀A B,decidedR (hd.log++_)=A++B→_
   rw [hD]
   intro A' B' he k q
   rcases pre_snoc he with⟨B2,h1⟩|h1
   ·exact c.pre A' B2 h1 k q
   ·rw [h1,tot_app,tot,tot]
    have h2:=c.pre (decidedR hd.log) [] (by simp) k q
    show 0≤tot k q (decidedR hd.log)+(amt k q o.parts+0)∧tot k q (decidedR hd.log)+(amt k q o.parts+0)≤1048576
    cases hh:has k q o.parts with
    |false=>rw [amt_none hh];omega
    |true=>
     obtain⟨hk,q0,q1⟩:=has_houses hw hn3 hh
     have hk0:0≤k:=(houses_lt hw hk).1
     obtain⟨h,b1,b2,b3,-⟩:=c.ready_parts hk0 (hall k hk) hoG
     have hf:=(fits_sum hw b2.right k).1 (b2.fits _ b3) q q0 q1
     have ha:=b2.add q q0 q1
     rw [tot_filter] at ha
     ·rw [ha] at hf;omega
     ·intro r hr hp
      cases h3:has k q r.parts with
      |false=>exact amt_none h3
      |true=>
       obtain⟨h',c1,c2⟩:=hord r hr k q h3 hh
       rw [b1] at c1
       obtain rfl:=Option.some.inj c1
       simp [c2] at hp }
theorem MOk.commit' {m:Ms} (h:MOk n G hd hs m) (_:Core n G hd hs) {A B:List Opn} {o:Opn} (e:hd.opn=A++o::B):
  MOk n G { hd with opn:=A++ [{ o with dec:=true,heard:=[] }]++B,log:=hd.log++ [⟨5,o.deed,o.parts⟩] } hs m:=by
 have ho:o∈hd.opn:=by rw [e];simp
 have hD:decidedR (hd.log++ [⟨5,o.deed,o.parts⟩])=decidedR hd.log++ [⟨o.deed,o.parts⟩]:=by rw [dec_snoc];rfl
 refine h.head (fun _ h=>h) (fun r hr=>?_) (fun o' ho' hoc _=>?_) fun h1 h2=>⟨?_,?_⟩
 ·show r∈decidedR (hd.log++_)
  rw [hD];exact List.mem_append_left _ hr
 ·simp only [List.mem_append,List.mem_singleton] at ho'
  rcases ho' with(ho'|rfl)|ho'
  ·exact⟨o',by rw [e];simp [ho'],rfl,hoc⟩
  ·cases hoc
  ·exact⟨o',by rw [e];simp [ho'],rfl,hoc⟩
 ·show∀r∈decidedR (hd.log++_),_
  rw [hD]
  intro r hr
  rcases List.mem_append.1 hr with hr|hr
  ·exact h1 r hr
  ·obtain rfl:=List.mem_singleton.1 hr;exact h2 o ho
 ·rw [e] at h2
  exact all_swap h2 (h2 o (by simp))
variable {n:Nat} {G:Reg} {hd:Hd} {hs:List Hs}
theorem Core.deed (c:Core n G hd hs) {d:Int} {P:List Pt} (h:(d,P)∈G):0≤d∧d≤1343:=by
 have h1:=(c.reg.ok _ h).1
 have h2:=c.old _ h
 have h3:=c.boot
 have h4:=c.next
 simp only at h1 h2
 omega
theorem Core.n3' (c:Core n G hd hs):(n:Int)≤3:=by have:=c.n3;omega
theorem Core.plain (c:Core n G hd hs) {d:Int} {P:List Pt} (h:(d,P)∈G) {k:Int} (hk:k∈housesE P) {kd:Int} (h1:1<kd) (h7:kd≤7):RightM ⟨kd,d,k,[]⟩:=by
 have hd':=c.deed h
 have hk3:=houses_lt (c.reg.ok _ h).2 hk
 have:=c.n3'
 exact⟨⟨by show 1≤kd;omega,h7⟩,hd',⟨hk3.1,by show k≤2;omega⟩,fun _=>rfl,fun e=>absurd (show kd=1 from e) (by omega)⟩
theorem Core.here (c:Core n G hd hs) {d:Int} {P:List Pt} (h:(d,P)∈G) {k:Int} (hk:k∈housesE P):k<n:=(houses_lt (c.reg.ok _ h).2 hk).2
theorem asks_ok (c:Core n G hd hs) {o:Opn} (ho:o∈hd.opn):∀x∈asksE o,MOk n G hd hs x:=by
 intro x hx
 unfold asksE at hx
 obtain⟨k,hk,rfl⟩:=List.mem_map.1 hx
 have hk:=(List.mem_filter.1 hk).1
 have hG:=c.oreg o ho
 have hw:wrongE o.parts n=0:=(c.reg.ok _ hG).2
 unfold commitM
 split
 ·rename_i hdec
  exact⟨c.plain hG hk (by omega) (by omega),c.here hG hk,⟨o.parts,hG,hk,(fun e=>by cases e)⟩,(fun e=>by cases e),fun _=>(c.odec o ho).1 hdec,(fun e=>by cases e),(fun e=>by cases e)⟩
 ·have hne:=(houses_mem.1 hk).2
  have hp:=wrong_ofL hw c.n3' hne
  have hd':=c.deed hG
  have hk3:=houses_lt hw hk
  have hn:=c.n3'
  exact⟨⟨⟨by show(1:Int)≤1;omega,by show(1:Int)≤7;omega⟩,hd',⟨hk3.1,by show k≤2;omega⟩,fun e=>absurd rfl e,fun _=>hp⟩,c.here hG hk,⟨o.parts,hG,hk,fun _=>rfl⟩,(fun e=>by cases e),(fun e=>by cases e),(fun e=>by cases e),(fun e=>by cases e)⟩
theorem aborts_ok (c:Core n G hd hs) {d:Int} {P:List Pt} (hG:(d,P)∈G) (h1:∀r∈decidedR hd.log,r.deed≠d) (h2:∀o∈hd.opn,o.deed≠d):∀x∈abortsE d P,MOk n G hd hs x:=by
 intro x hx
 unfold abortsE at hx
 obtain⟨k,hk,rfl⟩:=List.mem_map.1 hx
 exact⟨c.plain hG hk (by omega) (by omega),c.here hG hk,⟨P,hG,hk,(fun e=>by cases e)⟩,(fun e=>by cases e),(fun e=>by cases e),fun _=>.inl ⟨h1,h2⟩,(fun e=>by cases e)⟩
theorem Core.begin (c:Core n G hd hs) {P:List Pt} (hw:wrongE P n=0) (hf:fullE hd=false):
  Core n ((64*hd.boot+hd.next,P)::G) (beginH hd P) hs∧(∀m,MOk n G hd hs m→MOk n ((64*hd.boot+hd.next,P)::G) (beginH hd P) hs m)∧∀m∈beginM hd P,MOk n ((64*hd.boot+hd.next,P)::G) (beginH hd P) hs m:=by
 have hfull:hd.opn.length≤11∧hd.next≤63:=by
  unfold fullE at hf
  rw [decide_eq_false_iff_not] at hf
  omega
 have e:beginH hd P={ hd with opn:=hd.opn++ [newO hd P],next:=hd.next+1 }:=by unfold beginH;rw [if_neg (by rw [hf];simp)]
 have hb:=c.boot
 have hn:=c.next
 have hnew:∀x∈G,x.1≠64*hd.boot+hd.next:=fun x hx he=>by have:=c.old x hx;omega
 have hD:∀r∈decidedR hd.log,r.deed≠64*hd.boot+hd.next:=fun r hr=>hnew _ (c.dec.reg r hr)
 have hO:∀o∈hd.opn,o.deed≠64*hd.boot+hd.next:=fun o ho=>hnew _ (c.oreg o ho)
 have hin:∀o,o∈hd.opn++ [newO hd P]→o∈hd.opn∨o=newO hd P:=fun o ho=>by simpa using ho
 have hlog:(beginH hd P).log=hd.log:=by rw [e]
 have hc:Core n ((64*hd.boot+hd.next,P)::G) (beginH hd P) hs:=by
  rw [e]
  exact {
   len:=c.len,n3:=c.n3,lboot:=c.lboot,lnd:=c.lnd,ldec:=c.ldec,boot:=c.boot
   reg:=⟨by
    rw [List.map_cons,List.nodup_cons]
    exact⟨fun h=>by obtain⟨x,hx,he⟩:=List.mem_map.1 h;exact hnew x hx he,c.reg.nd⟩,fun x hx=>by
    rcases List.mem_cons.1 hx with rfl|hx
    ·exact⟨by show 0≤64*hd.boot+hd.next;omega,hw⟩
    ·exact c.reg.ok x hx⟩
   old:=fun x hx=>by
    rcases List.mem_cons.1 hx with rfl|hx
    ·show 64*hd.boot+hd.next<64*hd.boot+(hd.next+1);omega
    ·have:=c.old x hx
     show x.1<64*hd.boot+(hd.next+1);omega
   next:=⟨by show 0≤hd.next+1;omega,by show hd.next+1≤64;omega⟩
   lopn:=fun d Q=>by
    rw [c.lopn d Q]
    constructor
    ·rintro⟨o,ho,h⟩;exact⟨o,List.mem_append_left _ ho,h⟩
    ·rintro⟨o,ho,h1,h2,h3⟩
     rcases hin o ho with ho|rfl
     ·exact⟨o,ho,h1,h2,h3⟩
     ·cases h3
   ond:=by
    rw [List.map_append,List.nodup_append]
    refine⟨c.ond,by simp,fun a ha b hb' he=>?_⟩
    obtain⟨o,ho,rfl⟩:=List.mem_map.1 ha
    simp only [List.map_cons,List.map_nil,List.mem_singleton] at hb'
    exact hO o ho (he.trans hb')
   oreg:=fun o ho=>by
    rcases hin o ho with ho|rfl
    ·exact List.mem_cons_of_mem _ (c.oreg o ho)
    ·exact List.mem_cons_self
   olen:=by rw [List.length_append];simp;omega
   odec:=fun o ho=>by
    rcases hin o ho with ho|rfl
    ·exact c.odec o ho
    ·constructor
     ·intro h;cases h
     ·rintro⟨r,hr,he⟩;exact absurd he (hD r hr)
   onew:=fun o ho=>by
    rcases hin o ho with ho|rfl
    ·exact c.onew o ho
    ·exact⟨List.nodup_nil,(fun k hk=>by cases hk),houses_some hw c.n3'⟩
   ordy:=fun o ho hd' k hk=>by
    rcases hin o ho with ho|rfl
    ·exact c.ordy o ho hd' k hk
    ·cases hk
   odne:=fun o ho hd' k hk=>by
    rcases hin o ho with ho|rfl
    ·exact c.odne o ho hd' k hk
    ·cases hk
   dec:=⟨fun r hr=>List.mem_cons_of_mem _ (c.dec.reg r hr),c.dec.nd⟩
   held:=c.held
   ends:=fun r hr hno=>c.ends r hr fun o ho=>hno o (List.mem_append_left _ ho)
   house:=fun k h hk=>(c.house k h hk).more fun x hx=>List.mem_cons_of_mem _ hx
   ord:=c.ord
   pre:=c.pre }
 refine⟨hc,fun m hm=>?_,?_⟩
 ·have hmd:m.deed≠64*hd.boot+hd.next:=by
   obtain⟨Q,hQ,-⟩:=hm.reg
   exact hnew _ hQ
  refine hm.head (fun x hx=>List.mem_cons_of_mem _ hx) (fun r hr=>by rw [hlog];exact hr) (fun o' ho' hoc hod=>?_) fun h1 h2=>⟨by rw [hlog];exact h1,fun o ho=>?_⟩
  ·rw [e] at ho'
   rcases hin o' ho' with ho'|rfl
   ·exact⟨o',ho',rfl,hoc⟩
   ·exact absurd hod.symm hmd
  ·rw [e] at ho
   rcases hin o ho with ho|rfl
   ·exact h2 o ho
   ·exact fun h=>hmd h.symm
 ·unfold beginM
  rw [if_neg (by rw [hf];simp)]
  exact asks_ok hc (by rw [e];simp)
theorem Core.fall (c:Core n G hd hs) (hb:¬19<hd.boot):Core n G (fallH hd) hs∧∀m,MOk n G hd hs m→MOk n G (fallH hd) hs m:=by
 have hb2:=c.boot
 have hn:=c.next
 have e:fallH hd={ log:=hd.log++ [⟨4,0,[]⟩],boot:=wrap64 ((headR hd.log).boot+1),next:=0,opn:=(headR hd.log).opn }:=by
  unfold fallH
  rw [if_neg hb,head_snoc]
  have:=headR_next hd.log
  unfold headStep
  simp [this.1]
 have hw:wrap64 ((headR hd.log).boot+1)=hd.boot+1:=by rw [c.lboot];unfold wrap64;omega
 rw [hw] at e
 have hD:decidedR (hd.log++ [⟨4,0,[]⟩])=decidedR hd.log:=by rw [dec_snoc];rfl
 have hL:(headR (hd.log++ [⟨4,0,[]⟩])).opn=(headR hd.log).opn:=by rw [head_snoc];rfl
 have hB:(headR (hd.log++ [⟨4,0,[]⟩])).boot=hd.boot+1:=by rw [head_snoc,←hw];rfl
 have back:∀o∈(headR hd.log).opn,∃o'∈hd.opn,o'.deed=o.deed∧o'.parts=o.parts∧o'.dec=true:=fun o ho=>(c.lopn o.deed o.parts).1 ⟨o,ho,rfl,rfl⟩
 have hc:Core n G (fallH hd) hs:=by
  rw [e]
  exact {
   len:=c.len,n3:=c.n3,reg:=c.reg
   old:=fun x hx=>by have:=c.old x hx;show x.1<64*(hd.boot+1)+0;omega
   boot:=⟨by show 1≤hd.boot+1;omega,by show hd.boot+1≤20;omega⟩
   next:=⟨Int.le_refl _,by show(0:Int)≤64;omega⟩
   lboot:=hB
   lopn:=fun d P=>by
    show(∃o∈(headR (hd.log++_)).opn,_)↔∃o∈(headR hd.log).opn,_
    rw [hL]
    constructor
    ·rintro⟨o,ho,h1,h2⟩;exact⟨o,ho,h1,h2,(c.ldec o ho).1⟩
    ·rintro⟨o,ho,h1,h2,-⟩;exact⟨o,ho,h1,h2⟩
   lnd:=by show((headR (hd.log++_)).opn.map _).Nodup;rw [hL];exact c.lnd
   ldec:=fun o ho=>by
    have ho:o∈(headR (hd.log++ [⟨4,0,[]⟩])).opn:=ho
    rw [hL] at ho
    exact c.ldec o ho
   ond:=c.lnd
   oreg:=fun o ho=>by
    obtain⟨o',h1,h2,h3,-⟩:=back o ho
    rw [←h2,←h3];exact c.oreg o' h1
   olen:=by
    have h1:((headR hd.log).opn.map (·.deed)).length≤(hd.opn.map (·.deed)).length:=len_le c.lnd fun d hd'=>by
     obtain⟨o,ho,rfl⟩:=List.mem_map.1 hd'
     obtain⟨o',h1,h2,-⟩:=back o ho
     exact List.mem_map.2 ⟨o',h1,h2⟩
    simp only [List.length_map] at h1
    exact Nat.le_trans h1 c.olen
   odec:=fun o ho=>by
    show o.dec=true↔∃r∈decidedR (hd.log++_),_
    rw [hD]
    obtain⟨o',h1,h2,-,h4⟩:=back o ho
    rw [←h2]
    exact⟨fun _=>(c.odec o' h1).1 h4,fun _=>(c.ldec o ho).1⟩
   onew:=fun o ho=>by
    obtain⟨o',h1,h2,h3,-⟩:=back o ho
    rw [(c.ldec o ho).2,←h3]
    exact⟨List.nodup_nil,(fun k hk=>by cases hk),houses_some (c.reg.ok _ (c.oreg o' h1)).2 c.n3'⟩
   ordy:=fun o ho hd'=>by rw [(c.ldec o ho).1] at hd';cases hd'
   odne:=fun o ho _ k hk=>by rw [(c.ldec o ho).2] at hk;cases hk
   dec:=by show DecOk G (decidedR (hd.log++_));rw [hD];exact c.dec
   held:=by show∀r∈decidedR (hd.log++_),_;rw [hD];exact c.held
   ends:=fun r hr hno=>by
    have hr:r∈decidedR (hd.log++ [⟨4,0,[]⟩]):=hr
    rw [hD] at hr
    refine c.ends r hr fun o ho he=>?_
    have h1:=(c.odec o ho).2 ⟨r,hr,he.symm⟩
    obtain⟨o2,h2,h3,-⟩:=(c.lopn o.deed o.parts).2 ⟨o,ho,rfl,rfl,h1⟩
    exact hno o2 h2 (h3.trans he)
   house:=by show∀(k:Nat) h,_→HI G (decidedR (hd.log++_)) k h;rw [hD];exact c.house
   ord:=by show(decidedR (hd.log++_)).Pairwise _;rw [hD];exact c.ord
   pre:=by show∀A B,decidedR (hd.log++_)=A++B→_;rw [hD];exact c.pre }
 refine⟨hc,fun m hm=>?_⟩
 have hlog:(fallH hd).log=hd.log++ [⟨4,0,[]⟩]:=by rw [e]
 have hopn:(fallH hd).opn=(headR hd.log).opn:=by rw [e]
 refine hm.head (fun _ h=>h) (fun r hr=>by rw [hlog,hD];exact hr) (fun o' ho' hoc _=>?_) fun h1 h2=>⟨by rw [hlog,hD];exact h1,fun o ho=>?_⟩
 ·rw [hopn] at ho'
  rw [(c.ldec o' ho').1] at hoc;cases hoc
 ·rw [hopn] at ho
  obtain⟨o',h3,h4,-⟩:=back o ho
  rw [←h4];exact h2 o' h3
theorem Core.quit (c:Core n G hd hs):Core n G (quitH hd) hs∧(∀m,MOk n G hd hs m→MOk n G (quitH hd) hs m)∧∀m∈quitM hd,MOk n G (quitH hd) hs m:=by
 have hs':(hd.opn.filter fun o=>o.dec).Sublist hd.opn:=List.filter_sublist
 have hc:Core n G (quitH hd) hs:=c.drop hs' fun o ho hn=>by
  cases hd':o.dec with
  |false=>rfl
  |true=>exact absurd (List.mem_filter.2 ⟨ho,hd'⟩) hn
 refine⟨hc,fun m hm=>hm.drop hs',fun m hm=>?_⟩
 unfold quitM at hm
 obtain⟨o,ho,hm⟩:=List.mem_flatMap.1 hm
 obtain⟨h1,h2⟩:=List.mem_filter.1 ho
 have hu:o.dec=false:=by simpa using h2
 refine aborts_ok hc (c.oreg o h1) (fun r hr he=>?_) (fun o' ho' he=>?_) m hm
 ·have:=(c.odec o h1).2 ⟨r,hr,he⟩
  rw [hu] at this;cases this
 ·obtain⟨h3,h4⟩:=List.mem_filter.1 ho'
  have h5:=(c.odec o' h3).1 h4
  rw [he] at h5
  have:=(c.odec o h1).2 h5
  rw [hu] at this;cases this
theorem Core.hHear (c:Core n G hd hs) {m:Ms} (hm:MOk n G hd hs m):Core n G (hHearH hd m) hs∧(∀x,MOk n G hd hs x→MOk n G (hHearH hd m) hs x)∧∀x∈hHearM hd m,MOk n G (hHearH hd m) hs x:=by
 obtain⟨P,hP,hk,-⟩:=hm.reg
 unfold hHearH hHearM
 cases hl:hearL m hd.opn with
 |none=>
  refine⟨c,fun _ h=>h,fun x hx=>?_⟩
  simp only at hx
  split at hx
  ·obtain rfl:=List.mem_singleton.1 hx
   refine⟨c.plain hP hk (by omega) (by omega),c.here hP hk,⟨P,hP,hk,(fun e=>by cases e)⟩,(fun e=>by cases e),(fun e=>by cases e),fun _=>?_,(fun e=>by cases e)⟩
   have hno:=hearL_none hl
   by_cases hD:∃r∈decidedR hd.log,r.deed=m.deed
   ·obtain⟨r,hr,he⟩:=hD
    right
    have h1:=c.dec.reg r hr
    rw [he] at h1
    have h2:=c.ends r hr (fun o ho=>by rw [he];exact hno o ho) m.house (by rw [reg_same c.reg.nd h1 hP];exact hk)
    rw [he] at h2
    exact h2
   ·exact .inl ⟨fun r hr he=>hD ⟨r,hr,he⟩,hno⟩
  ·simp at hx
 |some y=>
  obtain⟨A,o,B,e,hA,hod,rfl⟩:=hearL_some hl
  simp only
  have ho:o∈hd.opn:=by rw [e];simp
  have hoG:=c.oreg o ho
  rw [hod] at hoG
  obtain rfl:=reg_same c.reg.nd hP hoG
  have hw:wrongE o.parts n=0:=(c.reg.ok _ hoG).2
  have hnew:=c.onew o ho
  have hlast:o.heard.length+1=(housesE o.parts).length→m.house∉o.heard→∀k∈housesE o.parts,k∈o.heard++ [m.house]:=fun hl hn=>by
   refine all_in ?_ ?_ (by simp;omega)
   ·rw [List.nodup_append]
    refine⟨hnew.1,by simp,fun a ha b hb he=>?_⟩
    rw [he,List.mem_singleton.1 hb] at ha
    exact hn ha
   ·intro k hk'
    rcases List.mem_append.1 hk' with hk'|hk'
    ·exact hnew.2.1 k hk'
    ·rw [List.mem_singleton.1 hk'];exact hk
  have hsame:({ hd with opn:=A++ [o]++B,log:=hd.log++ [] }:Hd)=hd:=by
   cases hd
   simp only at e ⊢
   simp [e]
  unfold hearO
  split
  ·rename_i h2
   obtain⟨k2,hu,hin,hn⟩:=h2
   have hr:rdy hs m.house o.deed:=by rw [hod];exact hm.yes k2 o ho hod hu
   split
   ·rename_i hl1
    have hall:∀k∈housesE o.parts,rdy hs k o.deed:=fun k hk'=>by
     rcases List.mem_append.1 (hlast hl1 hn k hk') with h|h
     ·exact c.ordy o ho hu k h
     ·rw [List.mem_singleton.1 h];exact hr
    have hc:=c.commit e hu hall
    exact⟨hc,fun x hx=>hx.commit' c e,asks_ok hc (by simp)⟩
   ·rename_i hl1
    simp only [List.append_nil]
    have hc:=c.heard e hin hn hl1 (fun _=>hr) (fun h=>by rw [hu] at h;cases h)
    exact⟨hc,fun x hx=>hx.heard e _,fun x hx=>by cases hx⟩
  split
  ·rename_i h3
   obtain⟨k3,hu⟩:=h3
   simp only [List.append_nil]
   have hsub:(A++B).Sublist hd.opn:=by rw [e];exact(List.Sublist.refl A).append (List.sublist_cons_self o B)
   have hon:=c.ond
   rw [e] at hon
   have hc:=c.drop hsub fun x hx hn=>by
    rw [e] at hx
    simp only [List.mem_append,List.mem_cons] at hx hn
    rcases hx with hx|rfl|hx
    ·exact absurd (.inl hx) hn
    ·exact hu
    ·exact absurd (.inr hx) hn
   refine⟨hc,fun x hx=>hx.drop hsub,aborts_ok hc (by rw [hod];exact hoG) (fun r hr he=>?_) fun o' ho'=>open_deed hon ho'⟩
   have:=(c.odec o ho).2 ⟨r,hr,he⟩
   rw [hu] at this;cases this
  split
  ·rename_i h6
   obtain⟨k6,hu,hin,hn⟩:=h6
   have hr:dne hs m.house o.deed:=by rw [hod];exact hm.ack k6
   split
   ·rename_i hl1
    have hall:∀k∈housesE o.parts,dne hs k o.deed:=fun k hk'=>by
     rcases List.mem_append.1 (hlast hl1 hn k hk') with h|h
     ·exact c.odne o ho hu k h
     ·rw [List.mem_singleton.1 h];exact hr
    simp only [List.append_nil]
    exact⟨c.end' e hu hall,fun x hx=>hx.end' e,fun x hx=>by cases hx⟩
   ·rename_i hl1
    simp only [List.append_nil]
    exact⟨c.heard e hin hn hl1 (fun h=>by rw [hu] at h;cases h) (fun _=>hr),fun x hx=>hx.heard e _,fun x hx=>by cases hx⟩
  split
  ·rename_i h7
   obtain⟨k7,hu⟩:=h7
   rw [hsame]
   refine⟨c,fun _ h=>h,fun x hx=>?_⟩
   obtain rfl:=List.mem_singleton.1 hx
   have h1:=(c.odec o ho).1 hu
   rw [hod] at h1
   exact⟨c.plain hP hk (by omega) (by omega),c.here hP hk,⟨o.parts,hP,hk,(fun e=>by cases e)⟩,(fun e=>by cases e),fun _=>h1,(fun e=>by cases e),(fun e=>by cases e)⟩
  ·rw [hsame]
   exact⟨c,fun _ h=>h,fun x hx=>by cases hx⟩
end Go.Proofs.Ytgbhpghgohggcaa
