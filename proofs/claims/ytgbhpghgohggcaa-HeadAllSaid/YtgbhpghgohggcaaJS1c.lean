/- The parts that laws are proved of, joined: Q7, U0, Q8, Q9, Q10, U1, U2, U3, U4, U5, U6, M8, M9, U7, U8, G1, Reg3, U9, U21, U10, U11, U11n, C4, U20, U28, U29, U12, U13, U15. No condition beside those that each theorem names. -/
import Derived.Lib.SlicesCompact
import Derived.Shelf.Slices.In.SortNone
import Derived.Test.YtgbhpghgohggcaaJS1b
namespace Go.Proofs.Ytgbhpghgohggcaa
open Go.RowKit
structure WI (n:Nat) (G:Reg) (w:AW):Prop where
 core:Core n G w.head w.houses
 net:∀m∈w.net,MOk n G w.head w.houses m
 len:w.net.length≤24
theorem send_mem {net ms:List Ms} {x:Ms} (h:x∈sendA net ms):x∈net∨x∈ms:=by
 unfold sendA at h
 rcases List.mem_append.1 h with h|h
 ·exact .inl h
 ·exact .inr (List.mem_of_mem_take h)
theorem send_len {net:List Ms} (ms:List Ms) (h:net.length≤24):(sendA net ms).length≤24:=by
 unfold sendA
 rw [List.length_append,List.length_take]
 omega
theorem WI.mk' {n:Nat} {G:Reg} {hd:Hd} {hs:List Hs} {net ms:List Ms} (c:Core n G hd hs) (h1:∀m∈net,MOk n G hd hs m) (h2:∀m∈ms,MOk n G hd hs m) (hl:net.length≤24):WI n G ⟨hd,hs,sendA net ms⟩:=
 ⟨c,fun m hm=>by
  rcases send_mem hm with h|h
  ·exact h1 m h
  ·exact h2 m h,send_len ms hl⟩
theorem ticks_ok {n:Nat} {G:Reg} {hd:Hd} {hs:List Hs} (c:Core n G hd hs) {k:Nat} {h:Hs} (hk:hs[k]? =some h):∀m∈hTickE h k,MOk n G hd hs m:=by
 intro m hm
 unfold hTickE at hm
 obtain⟨r,hr,rfl⟩:=List.mem_map.1 hm
 obtain⟨P,hP,hp,hne⟩:=(c.house k h hk).reg r hr
 have hlt:=(List.getElem?_eq_some_iff.1 hk).1
 have h3:=c.n3
 have hl:=c.len
 have hin:(k:Int)∈housesE P:=houses_mem.2 ⟨by omega,by rw [←hp];exact hne⟩
 exact⟨c.plain hP hin (by omega) (by omega),c.here hP hin,⟨P,hP,hin,(fun e=>by cases e)⟩,(fun e=>by cases e),(fun e=>by cases e),(fun e=>by cases e),(fun e=>by cases e)⟩
theorem tickE_ok {n:Nat} {G:Reg} {hd:Hd} {hs:List Hs} (c:Core n G hd hs):∀m∈tickE hd,MOk n G hd hs m:=by
 intro m hm
 unfold tickE at hm
 obtain⟨o,ho,hm⟩:=List.mem_flatMap.1 hm
 exact asks_ok c ho m hm
theorem WI.come {n:Nat} {G:Reg} {w:AW} (i:WI n G w) {m:Ms} (hm:MOk n G w.head w.houses m) (hl:w.net.length≤24):WI n G (comeA w m):=by
 unfold comeA
 cases hk:w.houses[m.house.toNat]? with
 |none=>exact i
 |some h=>
  simp only
  split
  ·obtain⟨c,h1,h2⟩:=i.core.hear hm hk
   exact WI.mk' c (fun x hx=>h1 x (i.net x hx)) h2 hl
  ·obtain⟨c,h1,h2⟩:=i.core.hHear hm
   exact WI.mk' c (fun x hx=>h1 x (i.net x hx)) h2 hl
theorem WI.tick {n:Nat} {G:Reg} {w:AW} (i:WI n G w) (k:Nat):WI n G (tickA w k):=by
 unfold tickA
 split
 ·exact WI.mk' i.core i.net (tickE_ok i.core) i.len
 ·cases hk:w.houses[k]? with
  |none=>exact i
  |some h=>exact WI.mk' i.core i.net (ticks_ok i.core hk) i.len
theorem WI.drop {n:Nat} {G:Reg} {w:AW} (i:WI n G w) (k:Nat):WI n G { w with net:=w.net.eraseIdx k }:=
 ⟨i.core,fun m hm=>i.net m (List.mem_of_mem_eraseIdx hm),Nat.le_trans (List.length_eraseIdx_le _ _) i.len⟩
theorem WI.there {n:Nat} {G:Reg} {w:AW} (i:WI n G w) {k:Int} (h:there w k=true):MOk n G w.head w.houses (w.net.getD k.toNat ⟨0,0,0,[]⟩):=by
 unfold Go.Proofs.Ytgbhpghgohggcaa.there at h
 rw [decide_eq_true_eq] at h
 have hl:k.toNat<w.net.length:=by omega
 have:w.net.getD k.toNat ⟨0,0,0,[]⟩=w.net[k.toNat]:=by rw [List.getD_eq_getElem?_getD,List.getElem?_eq_getElem hl];rfl
 rw [this]
 exact i.net _ (List.getElem_mem _)
theorem WI.step' {n:Nat} {G:Reg} {w:AW} (i:WI n G w) (s:St):∃G',WI n G' (doA w s)∧(G'=G∨(s.kind=1∧∃d,G'=(d,s.parts)::G)):=by
 unfold doA
 split
 ·rename_i k1
  split
  ·rename_i hw
   rw [i.core.len] at hw
   cases hf:fullE w.head with
   |false=>
    obtain⟨c,h1,h2⟩:=i.core.begin hw hf
    exact⟨_,WI.mk' c (fun x hx=>h1 x (i.net x hx)) h2 i.len,.inr ⟨k1,_,rfl⟩⟩
   |true=>
    refine⟨G,?_,.inl rfl⟩
    have e1:beginH w.head s.parts=w.head:=by unfold beginH;rw [if_pos hf]
    have e2:beginM w.head s.parts=[]:=by unfold beginM;rw [if_pos hf]
    rw [e1,e2]
    exact WI.mk' i.core i.net (by simp) i.len
  ·exact⟨G,i,.inl rfl⟩
 refine⟨G,?_,.inl rfl⟩
 split
 ·split
  ·rename_i ht
   have hm:=i.there ht
   have i2:=i.drop s.n.toNat
   exact i2.come (m:=w.net.getD s.n.toNat ⟨0,0,0,[]⟩) hm i2.len
  ·exact i
 split
 ·split
  ·exact i.drop _
  ·exact i
 split
 ·split
  ·rename_i ht
   refine⟨i.core,fun m hm=>?_,?_⟩
   ·rcases List.mem_append.1 hm with hm|hm
    ·exact i.net m hm
    ·rw [List.mem_singleton.1 hm];exact i.there ht.1
   ·rw [List.length_append];have:=ht.2;simp;omega
  ·exact i
 split
 ·split
  ·by_cases hb:19<w.head.boot
   ·have e:fallH w.head=w.head:=by unfold fallH;rw [if_pos hb]
    rw [e];exact i
   ·obtain⟨c,h1⟩:=i.core.fall hb
    exact⟨c,fun m hm=>h1 m (i.net m hm),i.len⟩
  ·exact i
 split
 ·split
  ·exact i.tick _
  ·exact i
 split
 ·obtain⟨c,h1,h2⟩:=i.core.quit
  exact WI.mk' c (fun x hx=>h1 x (i.net x hx)) h2 i.len
 ·exact i
theorem WI.step {n:Nat} {G:Reg} {w:AW} (i:WI n G w) (s:St):∃G',WI n G' (doA w s)∧(∀x∈G,x∈G')∧∀x∈G',x∈G∨(s.kind=1∧x.2=s.parts):=by
 obtain⟨G',i',rfl|⟨h1,d,rfl⟩⟩:=i.step' s
 ·exact⟨_,i',fun _ h=>h,fun _ h=>.inl h⟩
 ·refine⟨_,i',fun x hx=>List.mem_cons_of_mem _ hx,fun x hx=>?_⟩
  rcases List.mem_cons.1 hx with rfl|hx
  ·exact .inr ⟨h1,rfl⟩
  ·exact .inl hx
theorem WI.zero {n:Nat} (h:1≤n∧n≤3):WI n [] (newA n):=by
 refine⟨?_,by intro m hm;simp [newA] at hm,by simp [newA]⟩
 have hb:(headR [⟨4,0,[]⟩]).boot=1:=by kernel_rfl
 exact {
  len:=by simp [newA]
  n3:=h
  reg:=⟨by simp,by simp⟩
  old:=by simp
  boot:=by show 1≤(headR [⟨4,0,[]⟩]).boot∧(headR [⟨4,0,[]⟩]).boot≤20;rw [hb];omega
  next:=by show 0≤(0:Int)∧(0:Int)≤64;omega
  lboot:=rfl
  lopn:=fun d P=>by
   constructor
   ·rintro⟨o,ho,-⟩;cases ho
   ·rintro⟨o,ho,-⟩;cases ho
  lnd:=List.nodup_nil
  ldec:=fun o ho=>by cases ho
  ond:=List.nodup_nil
  oreg:=fun o ho=>by cases ho
  olen:=Nat.zero_le _
  odec:=fun o ho=>by cases ho
  onew:=fun o ho=>by cases ho
  ordy:=fun o ho=>by cases ho
  odne:=fun o ho=>by cases ho
  dec:=⟨(fun r hr=>by cases hr),List.nodup_nil⟩
  held:=fun r hr=>by cases hr
  ends:=fun r hr=>by cases hr
  house:=fun k x hx=>by
   have:x=hs0:=by
    simp only [newA] at hx
    rw [List.getElem?_replicate] at hx
    split at hx
    ·exact(Option.some.inj hx).symm
    ·cases hx
   rw [this]
   exact HI.zero _ _ _
  ord:=List.Pairwise.nil
  pre:=fun A B e k q=>by
   have hA:A=[]:=(List.append_eq_nil_iff.1 e.symm).1
   rw [hA]
   simp [tot] }
theorem WI.play {n:Nat}:∀(l:List St) {G:Reg} {w:AW},WI n G w→∃G',WI n G' (playA w l)∧(∀x∈G,x∈G')∧∀x∈G',x∈G∨∃s∈l,s.kind=1∧x.2=s.parts
 | [],G,w,i=>⟨G,i,fun _ h=>h,fun _ h=>.inl h⟩
 |s::l,G,w,i=>by
  obtain⟨G1,i1,a1,b1⟩:=i.step s
  obtain⟨G2,i2,a2,b2⟩:=WI.play l i1
  refine⟨G2,i2,fun x hx=>a2 x (a1 x hx),fun x hx=>?_⟩
  rcases b2 x hx with h|⟨t,ht,h⟩
  ·rcases b1 x h with h|h
   ·exact .inl h
   ·exact .inr ⟨s,List.mem_cons_self,h⟩
  ·exact .inr ⟨t,List.mem_cons_of_mem _ ht,h⟩
theorem WI.of_play {n:Nat} (h:1≤n∧n≤3) (l:List St):∃G,WI n G (playA (newA n) l)∧∀x∈G,∃s∈l,s.kind=1∧x.2=s.parts:=by
 obtain⟨G,i,-,b⟩:=WI.play l (WI.zero h)
 refine⟨G,i,fun x hx=>?_⟩
 rcases b x hx with h|h
 ·cases h
 ·exact h
def Ty.wd:Ty AW where
 size:=6
 R:=fun c cs x=>∃vlog vopn vhs vnet:Value,cs=[vlog,.int .i64 x.head.boot,.int .i64 x.head.next,vopn,vhs,vnet]∧Sl Ty.rc c vlog x.head.log∧I64 x.head.boot∧I64 x.head.next∧Sl Ty.opn c vopn x.head.opn∧Sl Ty.hs c vhs x.houses∧Nts c vnet (x.net.map bytesM)
 len:=by rintro c cs x ⟨_,_,_,_,rfl,_⟩;rfl
 mono:=by rintro c c' cs x h ⟨a,b,d,e,rfl,h1,h2,h3,h4,h5,h6⟩;exact⟨a,b,d,e,rfl,h1.mono h,h2,h3,h4.mono h,h5.mono h,h6.mono h⟩
theorem Of.wd_form {c:CM} {v:Value} {x:AW} (hv:Of Ty.wd c v x):∃al cl ao co ah ch an cn,v=.agg #[.slice al x.head.log.length cl,.int .i64 x.head.boot,.int .i64 x.head.next,.slice ao x.head.opn.length co,.slice ah x.houses.length ch,.slice an x.net.length cn]:=by
 obtain⟨cs,rfl,vl,vo,vh,vn,rfl,hl,-,-,ho,hh,hn⟩:=hv
 obtain⟨al,cl,rfl,-⟩:=id hl
 obtain⟨ao,co,rfl,-⟩:=id ho
 obtain⟨ah,ch,rfl,-⟩:=id hh
 obtain⟨an,cn,rfl,-⟩:=id hn
 exact⟨al,cl,ao,co,ah,ch,an,cn,by simp⟩
theorem Of.wd_parts {c:CM} {vl vo vh vn b n:Value} {x:AW} (hv:Of Ty.wd c (.agg #[vl,b,n,vo,vh,vn]) x):Of Ty.hd c (.agg #[vl,b,n,vo]) x.head∧Sl Ty.hs c vh x.houses∧Nts c vn (x.net.map bytesM):=by
 obtain⟨cs,he,vl',vo',vh',vn',rfl,hl,hb,hn,ho,hh,hnn⟩:=hv
 simp at he
 obtain⟨rfl,rfl,rfl,rfl,rfl,rfl⟩:=he
 exact⟨⟨_,rfl,_,_,rfl,hl,hb,hn,ho⟩,hh,hnn⟩
theorem Of.wd_mk {c:CM} {vl vo vh vn b n:Value} {hd:Hd} {hs:List Hs} {net:List Ms} (h1:Of Ty.hd c (.agg #[vl,b,n,vo]) hd) (h2:Sl Ty.hs c vh hs) (h3:Nts c vn (net.map bytesM)):Of Ty.wd c (.agg #[vl,b,n,vo,vh,vn]) ⟨hd,hs,net⟩:=by
 obtain⟨cs,he,vl',vo',rfl,hl,hb,hn,ho⟩:=h1
 simp at he
 obtain⟨rfl,rfl,rfl,rfl⟩:=he
 exact⟨_,rfl,_,_,_,_,rfl,hl,hb,hn,ho,h2,h3⟩
theorem Of.opn_form {c:CM} {v:Value} {o:Opn} (hv:Of Ty.opn c v o):∃ap cp ah ch,v=.agg #[.int .i64 o.deed,.slice ap o.parts.length cp,.bool o.dec,.slice ah o.heard.length ch]:=by
 obtain⟨cs,rfl,vp,vh,rfl,-,hp,hh⟩:=hv
 obtain⟨ap,cp,rfl,-⟩:=id hp
 obtain⟨ah,ch,rfl,-⟩:=id hh
 exact⟨_,_,_,_,rfl⟩
theorem Of.opn_parts {c:CM} {d b vp vh:Value} {o:Opn} (hv:Of Ty.opn c (.agg #[d,vp,b,vh]) o):I64 o.deed∧Sl Ty.pt c vp o.parts∧Sl Ty.int c vh o.heard:=by
 obtain⟨cs,he,vp',vh',rfl,hd,hp,hh⟩:=hv
 simp at he
 obtain⟨-,rfl,-,rfl⟩:=he
 exact⟨hd,hp,hh⟩
theorem ov_none_sub (w w':World):Sub (ov (fun _=>none) w w') w'.cell?:=fun a v e=>by
 unfold ov at e
 split at e
 ·cases e
 ·exact e
theorem OwnC.ovn {α:Type} {T:Ty α} (h0:0<T.size) {w w':World} {e:Nat} {v:Value} {l:List α} (h:OwnC T (fr w w' [v.ownBlock]) w' w.heap.size e v l):Sl T (ov (fun _=>none) w w') v l:=
 h.slc h0 (fr_ov _ _ _ _) fun _ ha=>ov_new ha
structure Few (k:Nat) (w:AW):Prop where
 log:w.head.log.length≤k+1
 logs:∀h∈w.houses,h.log.length≤k
def SumsAre (n:Nat) (A:List Rd) (sums:List Sm):Prop:=sums.length=n∧∀(k:Nat) s,sums[k]? =some s→∀q:Int,0≤q→q<4→s.get q=tot k q A
theorem Core.all {n:Nat} {G:Reg} {hd:Hd} {hs:List Hs} (c:Core n G hd hs):∀(B A:List Rd) (sums:List Sm),decidedR hd.log=A++B→SumsAre n A sums→
  (allE sums B).2=B.map (fun _=>(0:Int))∧SumsAre n (decidedR hd.log) (allE sums B).1
 | [],A,sums,e,h=>by
  rw [List.append_nil] at e
  rw [e];exact⟨rfl,h⟩
 |r::B,A,sums,e,h=>by
  have hr:r∈decidedR hd.log:=by rw [e];simp
  have hw:wrongE r.parts n=0:=(c.reg.ok _ (c.dec.reg r hr)).2
  have hright:∀(k:Nat) s,sums[k]? =some s→rightS s=true:=fun k s hs'=>rightS_get.2 fun q a b=>by
   rw [h.2 k s hs' q a b]
   exact c.pre A (r::B) e k q
  have e2:decidedR hd.log=(A++ [r])++B:=by rw [e];simp
  have hfit:∀(k:Nat) s,sums[k]? =some s→fitsE s.get (ofL r.parts ((0+k:Nat):Int))=0:=fun k s hs'=>by
   rw [Nat.zero_add]
   refine(fits_sum hw (hright k s hs') k).2 fun q a b=>?_
   have:=c.pre (A++ [r]) B e2 k q
   rw [tot_app,tot,tot,←h.2 k s hs' q a b] at this
   omega
  have hz:=errGo_zero (k0:=0) hfit
  have hda:doAllE sums r.parts=(putGo r.parts 0 sums,0):=by unfold doAllE;rw [if_pos hz]
  have h2:SumsAre n (A++ [r]) (putGo r.parts 0 sums):=by
   refine⟨by rw [putGo_len];exact h.1,fun k s hs' q a b=>?_⟩
   rw [putGo_get] at hs'
   cases hk:sums[k]? with
   |none=>rw [hk] at hs';simp at hs'
   |some t=>
    rw [hk] at hs'
    simp only [Option.map_some,Option.some.injEq,Nat.zero_add] at hs'
    rw [←hs',doP_sum hw (hright k t hk) k a b,h.2 k t hk q a b,tot_app,tot,tot]
    omega
  obtain⟨i1,i2⟩:=Core.all c B (A++ [r]) _ e2 h2
  show(doAllE sums r.parts).2::(allE (doAllE sums r.parts).1 B).2=0::B.map (fun _=>(0:Int))∧SumsAre n _ (allE (doAllE sums r.parts).1 B).1
  rw [hda]
  exact⟨by rw [i1],i2⟩
theorem zero_sums (n:Nat):SumsAre n [] (List.replicate n ⟨0,0,0,0⟩):=by
 refine⟨by simp,fun k s hs' q a b=>?_⟩
 rw [List.getElem?_replicate] at hs'
 split at hs'
 ·obtain rfl:=Option.some.inj hs'
  have hq:q=0∨q=1∨q=2∨q=3:=by omega
  rcases hq with rfl|rfl|rfl|rfl<;>rfl
 ·cases hs'
theorem Core.even {n:Nat} {G:Reg} {hd:Hd} {hs:List Hs} (c:Core n G hd hs) (hall:∀r∈decidedR hd.log,∀k∈housesE r.parts,dne hs k r.deed):
  allE (List.replicate n ⟨0,0,0,0⟩) (decidedR hd.log)=(hs.map (·.sums),(decidedR hd.log).map fun _=>(0:Int)):=by
 obtain⟨h1,h2,h3⟩:=c.all (decidedR hd.log) [] _ rfl (zero_sums n)
 refine Prod.ext ?_ h1
 refine List.ext_getElem? fun k=>?_
 rw [List.getElem?_map]
 cases hk:(allE (List.replicate n ⟨0,0,0,0⟩) (decidedR hd.log)).1[k]? with
 |none=>
  have:n≤k:=by rw [←h2];exact List.getElem?_eq_none_iff.1 hk
  rw [List.getElem?_eq_none (by rw [c.len];exact this)];rfl
 |some s=>
  have hlt:k<n:=by rw [←h2];exact(List.getElem?_eq_some_iff.1 hk).1
  have hl:k<hs.length:=by rw [c.len];exact hlt
  have hh:hs[k]? =some hs[k]:=List.getElem?_eq_getElem hl
  rw [hh]
  simp only [Option.map_some,Option.some.injEq]
  refine Sm.ext_get fun q a b=>?_
  rw [h3 k s hk q a b,(c.house k _ hh).add q a b]
  symm
  refine tot_filter fun r hr hp=>?_
  cases hh2:has k q r.parts with
  |false=>exact amt_none hh2
  |true=>
   have hw:wrongE r.parts n=0:=(c.reg.ok _ (c.dec.reg r hr)).2
   obtain⟨x,hx,hd'⟩:=hall r hr k (has_houses hw c.n3' hh2).1
   have:x=hs[k]:=by
    rw [show((k:Int)).toNat=k from rfl,hh] at hx
    exact(Option.some.inj hx).symm
   rw [this] at hd'
   simp [hd'] at hp
def wt (m:Ms):Nat:=if m.kind=1 then 8 else if m.kind=2 then 7 else if m.kind=3 then 4 else if m.kind=4 then 2 else if m.kind=7 then 3 else 1
def wts:List Ms→Nat
 | []=>0
 |m::l=>wt m+wts l
theorem wts_app:∀a b:List Ms,wts (a++b)=wts a+wts b
 | [],b=>by simp [wts]
 |m::a,b=>by rw [List.cons_append,wts,wts,wts_app a b];omega
theorem wts_take:∀(l:List Ms) (k:Nat),wts (l.take k)≤wts l
 | [],k=>by simp [wts]
 |m::l,0=>by simp [wts]
 |m::l,k+1=>by rw [List.take_succ_cons,wts,wts];have:=wts_take l k;omega
theorem wts_send (net ms:List Ms):wts (sendA net ms)≤wts net+wts ms:=by
 unfold sendA
 rw [wts_app]
 have:=wts_take ms (24 - net.length)
 omega
theorem wts_all {c:Nat}:∀{l:List Ms},(∀m∈l,wt m≤c)→wts l≤l.length*c
 | [],_=>by simp [wts]
 |m::l,h=>by
  have h1:=h m List.mem_cons_self
  have h2:=wts_all (l:=l) fun x hx=>h x (List.mem_cons_of_mem _ hx)
  rw [wts,List.length_cons,Nat.add_mul]
  omega
theorem wt_pos (m:Ms):1≤wt m:=by
 unfold wt
 split
 ·omega
 split
 ·omega
 split
 ·omega
 split
 ·omega
 split
 ·omega
 ·omega
theorem houses_len (P:List Pt):(housesE P).length≤3:=by
 unfold housesE
 exact Nat.le_trans (List.length_filter_le _ _) (by decide)
theorem hear_wt (h:Hs) (me:Int) (m:Ms):wts (hearM h me m)<wt m:=by
 unfold hearM
 split
 ·rename_i h1
  have:wt m=8:=by unfold wt;rw [if_pos h1]
  split
  ·rw [this];simp [wts]
  ·split
   ·rw [this];simp [wts,sayE,wt]
   ·rw [this];simp [wts,sayE,wt]
 ·split
  ·rename_i h4
   have:wt m=2:=by unfold wt;simp [h4]
   split
   ·rw [this];simp [wts,sayE,wt]
   ·rw [this];simp [wts]
  ·have:=wt_pos m
   simp only [wts];omega
theorem hearO_wt (o:Opn) (m:Ms):wts (hearO o m).2.2<wt m:=by
 have hp:=wt_pos m
 unfold hearO
 split
 ·rename_i h2
  have:wt m=7:=by unfold wt;simp [h2.1]
  split
  ·have h3:wts (asksE { o with dec:=true,heard:=[] })≤(asksE { o with dec:=true,heard:=[] }).length*2:=wts_all fun x hx=>by
    unfold asksE at hx
    obtain⟨k,-,rfl⟩:=List.mem_map.1 hx
    simp [commitM,wt]
   have h4:(asksE { o with dec:=true,heard:=[] }).length≤3:=by
    unfold asksE
    rw [List.length_map]
    exact Nat.le_trans (List.length_filter_le _ _) (houses_len _)
   show wts (asksE _)<_
   omega
  ·show wts []<_
   simp only [wts];omega
 split
 ·rename_i h3
  have:wt m=4:=by unfold wt;simp [h3.1]
  have h3:wts (abortsE o.deed o.parts)≤(abortsE o.deed o.parts).length*1:=wts_all fun x hx=>by
   unfold abortsE at hx
   obtain⟨k,-,rfl⟩:=List.mem_map.1 hx
   simp [wt]
  have h4:(abortsE o.deed o.parts).length≤3:=by
   unfold abortsE
   rw [List.length_map]
   exact houses_len _
  show wts (abortsE _ _)<_
  omega
 split
 ·split
  ·show wts []<_
   simp only [wts];omega
  ·show wts []<_
   simp only [wts];omega
 split
 ·rename_i h7
  have:wt m=3:=by unfold wt;simp [h7.1]
  rw [this]
  simp [wts,wt]
 ·show wts []<_
  simp only [wts];omega
theorem hHear_wt (h:Hd) (m:Ms):wts (hHearM h m)<wt m:=by
 have hp:=wt_pos m
 unfold hHearM
 cases hl:hearL m h.opn with
 |none=>
  simp only
  split
  ·rename_i h7
   have:wt m=3:=by unfold wt;simp [h7]
   rw [this]
   simp [wts,wt]
  ·simp only [wts];omega
 |some x=>
  obtain⟨A,o,B,-,-,-,rfl⟩:=hearL_some hl
  exact hearO_wt o m
theorem come_wt (w:AW) (m:Ms):wts (comeA w m).net<wts w.net+wt m:=by
 have hp:=wt_pos m
 unfold comeA
 cases w.houses[m.house.toNat]? with
 |none=>simp only;omega
 |some h=>
  simp only
  split
  ·have h1:=wts_send w.net (hearM h m.house m)
   have h2:=hear_wt h m.house m
   show wts (sendA _ _)<_
   omega
  ·have h1:=wts_send w.net (hHearM w.head m)
   have h2:=hHear_wt w.head m
   show wts (sendA _ _)<_
   omega
def drainN:Nat→AW→AW
 |0,w=>w
 |f+1,w=>match w.net with
  | []=>w
  |m::l=>drainN f (comeA { w with net:=l } m)
def drainA (w:AW):AW:=drainN (wts w.net) w
theorem drain_step {w:AW} {m:Ms} {l:List Ms} (h:w.net=m::l):wts (comeA { w with net:=l } m).net<wts w.net:=by
 have:=come_wt { w with net:=l } m
 rw [h,wts]
 simp only at this
 omega
theorem drainN_more:∀(f g:Nat) (w:AW),wts w.net≤f→f≤g→drainN g w=drainN f w
 |0,g,w,h,_=>by
  have:w.net=[]:=by
   cases hn:w.net with
   |nil=>rfl
   |cons m l=>rw [hn,wts] at h;have:=wt_pos m;omega
  cases g with
  |zero=>rfl
  |succ g=>unfold drainN;rw [this]
 |f+1,0,w,h,hg=>by omega
 |f+1,g+1,w,h,hg=>by
  cases hn:w.net with
  |nil=>unfold drainN;rw [hn]
  |cons m l=>
   have:=drain_step hn
   unfold drainN
   rw [hn]
   exact drainN_more f g _ (by omega) (by omega)
theorem drain_nil {w:AW} (h:w.net=[]):drainA w=w:=by
 unfold drainA
 rw [h];rfl
theorem drain_cons {w:AW} {m:Ms} {l:List Ms} (h:w.net=m::l):drainA w=drainA (comeA { w with net:=l } m):=by
 have h1:=drain_step h
 unfold drainA
 have hp:∃k,wts w.net=k+1:=⟨wts w.net - 1,by omega⟩
 obtain⟨k,hk⟩:=hp
 have e:drainN (k+1) w=drainN k (comeA { w with net:=l } m):=by
  show(match w.net with| []=>w|m::l=>drainN k (comeA { w with net:=l } m))=_
  rw [h]
 rw [hk,e]
 exact drainN_more _ _ _ (Nat.le_refl _) (by omega)
theorem drain_keeps {p:AW→Prop} (hstep:∀(w:AW) (m:Ms) (l:List Ms),p w→w.net=m::l→p (comeA { w with net:=l } m)):∀(f:Nat) (w:AW),wts w.net≤f→p w→p (drainA w)∧(drainA w).net=[]
 |f,w,hf,hp=>by
  cases hn:w.net with
  |nil=>rw [drain_nil hn];exact⟨hp,hn⟩
  |cons m l=>
   have h1:=drain_step hn
   rw [drain_cons hn]
   cases f with
   |zero=>omega
   |succ f=>exact drain_keeps hstep f _ (by omega) (hstep w m l hp hn)
theorem WI.come1 {n:Nat} {G:Reg} {w:AW} (i:WI n G w) {m:Ms} {l:List Ms} (h:w.net=m::l):WI n G (comeA { w with net:=l } m):=by
 have hl:=i.len
 rw [h] at hl
 simp at hl
 have i2:WI n G { w with net:=l }:=⟨i.core,fun x hx=>i.net x (by rw [h];exact List.mem_cons_of_mem _ hx),by show l.length≤24;omega⟩
 exact i2.come (i.net m (by rw [h];exact List.mem_cons_self)) i2.len
theorem WI.drain {n:Nat} {G:Reg} {w:AW} (i:WI n G w):WI n G (drainA w)∧(drainA w).net=[]:=
 drain_keeps (p:=fun w=>WI n G w) (fun _ _ _ h e=>h.come1 e) _ w (Nat.le_refl _) i
def NoRdy (w:AW) (j:Nat):Prop:=∀h,w.houses[j]? =some h→h.ready=[]
theorem keysOf_len:∀{l:List Rd},(∀r∈l,r.parts≠ [])→l.length≤(keysOf l).length
 | [],_=>Nat.zero_le _
 |r::l,h=>by
  have ih:=keysOf_len (l:=l) fun x hx=>h x (List.mem_cons_of_mem _ hx)
  have h1:0<r.parts.length:=List.length_pos_iff.2 (h r List.mem_cons_self)
  rw [keysOf_cons,List.length_append,List.length_map,List.length_cons]
  omega
theorem ready_len {n:Nat} {G:Reg} {hd:Hd} {hs:List Hs} (c:Core n G hd hs) {k:Nat} {h:Hs} (hk:hs[k]? =some h):h.ready.length≤4:=by
 have hi:=c.house k h hk
 have h1:=keysOf_len (l:=h.ready) fun r hr=>by
  obtain⟨P,-,-,hne⟩:=hi.reg r hr
  exact hne
 have h2:=len_le hi.calm.apart (b:=[0,1,2,3]) fun q hq=>by
  unfold keysOf at hq
  obtain⟨r,hr,hq⟩:=List.mem_flatMap.1 hq
  obtain⟨P,hP,hp,-⟩:=hi.reg r hr
  obtain⟨p,hp',rfl⟩:=List.mem_map.1 hq
  rw [hp] at hp'
  have:=ofL_ok (c.reg.ok _ hP).2 k p hp'
  simp
  omega
 simp only [List.length_cons,List.length_nil] at h2
 omega
def tickD (w:AW) (k:Nat):AW:=drainA (tickA w k)
theorem WI.tickD {n:Nat} {G:Reg} {w:AW} (i:WI n G w) (k:Nat):WI n G (tickD w k)∧(tickD w k).net=[]:=(i.tick k).drain
def roundA (w:AW):AW:=tickD (tickD (tickD (tickD (drainA w) 3) 2) 1) 0
structure Quiet (w:AW):Prop where
 net:w.net=[]
 opn:w.head.opn=[]
 ready:∀j,NoRdy w j
theorem WI.round {n:Nat} {G:Reg} {w:AW} (i:WI n G w):WI n G (roundA w):=
 ((((i.drain.1.tickD 3).1.tickD 2).1.tickD 1).1.tickD 0).1
def isOpen (w:AW) (d:Int):Bool:=w.houses.any (fun h=>readyE h.ready d)||
 (decidedR w.head.log).any fun r=>r.deed==d&&(List.range w.houses.length).any fun k=>!(ofL r.parts k).isEmpty&& !decide (d∈(w.houses.getD k hs0).done)
def opensE (w:AW):List Int:=((List.range 1344).map fun d:Nat=>(d:Int)).filter (isOpen w)
theorem headFold_log:∀(l:List Rc) (h:Hd),(l.foldl headStep h).log=h.log
 | [],_=>rfl
 |r::l,h=>by
  rw [List.foldl_cons,headFold_log l]
  unfold headStep
  split
  ·rfl
  ·split
   ·rfl
   ·split<;>rfl
theorem headR_log (l:List Rc):(headR l).log=l:=headFold_log l _
theorem hearH_len {h:Hs} (m:Ms) {k:Nat} (hk:h.log.length≤k):(hearH h m).log.length≤k+1:=by
 have hn:∀r:Rc,(noteE h r).log.length≤k+1:=fun r=>by
  rw [show(noteE h r).log=h.log++ [r] from log_house _];simpa using hk
 unfold hearH
 split
 ·split
  ·exact hn _
  ·omega
 ·split
  ·split
   ·exact hn _
   ·omega
  ·split
   ·split
    ·exact hn _
    ·omega
   ·omega
theorem hearO_log (o:Opn) (m:Ms):(hearO o m).2.1.length≤1:=by
 unfold hearO
 split
 ·split<;>simp
 ·split
  ·simp
  ·split
   ·split<;>simp
   ·split<;>simp
theorem hearL_log {m:Ms}:∀{l:List Opn} {x:List Opn×List Rc×List Ms},hearL m l=some x→x.2.1.length≤1
 | [],x,h=>by simp [hearL] at h
 |o::l,x,h=>by
  rw [hearL] at h
  split at h
  ·rw [←Option.some.inj h];exact hearO_log o m
  ·cases e:hearL m l with
   |none=>rw [e] at h;cases h
   |some y=>
    rw [e] at h
    rw [←Option.some.inj h]
    have h9:=hearL_log e
    exact h9
theorem hHear_log {h:Hd} (m:Ms) {k:Nat} (hk:h.log.length≤k):(hHearH h m).log.length≤k+1:=by
 unfold hHearH
 split
 ·omega
 ·rename_i x e
  have:=hearL_log e
  show(h.log++x.2.1).length≤_
  rw [List.length_append];omega
theorem begin_log (h:Hd) (P:List Pt):(beginH h P).log=h.log:=by
 unfold beginH
 split<;>rfl
theorem fall_log {h:Hd} {k:Nat} (hk:h.log.length≤k):(fallH h).log.length≤k+1:=by
 unfold fallH
 split
 ·omega
 ·rw [headR_log];simpa using hk
theorem Few.more {k:Nat} {w:AW} (f:Few k w):Few (k+1) w:=⟨by have:=f.log;omega,fun h hh=>by have:=f.logs h hh;omega⟩
theorem Few.come {k:Nat} {w:AW} (f:Few k w) (m:Ms):Few (k+1) (comeA w m):=by
 unfold comeA
 split
 ·exact f.more
 ·rename_i h e
  split
  ·refine⟨by have:=f.log;show w.head.log.length≤_;omega,fun x hx=>?_⟩
   rcases List.mem_or_eq_of_mem_set hx with hx|rfl
   ·have:=f.logs x hx;omega
   ·exact hearH_len m (f.logs h (List.mem_of_getElem? e))
  ·exact⟨hHear_log m f.log,fun x hx=>by have:=f.logs x hx;omega⟩
theorem Few.step {k:Nat} {w:AW} (f:Few k w) (s:St):Few (k+1) (doA w s):=by
 have f1:=f.more
 have f2:∀net,Few k { w with net:=net }:=fun _=>⟨f.log,f.logs⟩
 unfold doA
 split
 ·split
  ·exact⟨by show(beginH w.head s.parts).log.length≤_;rw [begin_log];exact f1.log,f1.logs⟩
  ·exact f1
 ·split
  ·split
   ·exact(f2 _).come _
   ·exact f1
  ·split
   ·split
    ·exact(f2 _).more
    ·exact f1
   ·split
    ·split
     ·exact(f2 _).more
     ·exact f1
    ·split
     ·split
      ·exact⟨fall_log f.log,f1.logs⟩
      ·exact f1
     ·split
      ·split
       ·unfold tickA
        split
        ·exact(f2 _).more
        ·split
         ·exact f1
         ·exact(f2 _).more
       ·exact f1
      ·split
       ·exact⟨f1.log,f1.logs⟩
       ·exact f1
theorem Few.zero (n:Nat):Few 0 (newA n):=⟨by show(headR _).log.length≤_;rw [headR_log];simp,fun h hh=>by
 rw [List.eq_of_mem_replicate hh];show(houseR []).log.length≤_;rw [log_house];simp⟩
theorem Few.play (n:Nat):∀(l:List St) {k:Nat} {w:AW},Few k w→Few (k+l.length) (playA w l)
 | [],k,w,f=>f
 |s::l,k,w,f=>by
  show Few _ (playA (doA w s) l)
  have:=Few.play n l (f.step s)
  rw [List.length_cons,show k+(l.length+1)=k+1+l.length by omega]
  exact this
structure Small (w:AW):Prop where
 few:∃k,k≤1000∧Few k w
 wi:∃n G,WI n G w
theorem fmap_next {α β:Type} (q:α→Bool) (f:α→β) {l:List α} {j:Nat} (h:j<l.length):((l.take (j+1)).filter q).map f=if q l[j]=true then((l.take j).filter q).map f++ [f l[j]] else((l.take j).filter q).map f:=by
 rw [List.take_succ_eq_append_getElem h,List.filter_append,List.map_append]
 by_cases hq:q l[j]=true<;>simp [hq]
theorem map_next {α β:Type} (f:α→β) {l:List α} {j:Nat} (h:j<l.length):(l.take (j+1)).map f=(l.take j).map f++ [f l[j]]:=by
 rw [List.take_succ_eq_append_getElem h,List.map_append];rfl
theorem flat_next {α β:Type} (f:α→List β) {l:List α} {j:Nat} (h:j<l.length):(l.take (j+1)).flatMap f=(l.take j).flatMap f++f l[j]:=by
 rw [List.take_succ_eq_append_getElem h,List.flatMap_append];simp
theorem fflat_next {α β:Type} (q:α→Bool) (f:α→List β) {l:List α} {j:Nat} (h:j<l.length):((l.take (j+1)).filter q).flatMap f=if q l[j]=true then((l.take j).filter q).flatMap f++f l[j] else((l.take j).filter q).flatMap f:=by
 rw [List.take_succ_eq_append_getElem h,List.filter_append,List.flatMap_append]
 by_cases hq:q l[j]=true<;>simp [hq]
theorem houses_short (l:List Pt):(housesE l).length≤3:=Nat.le_trans (List.length_filter_le _ _) (by simp)
theorem asks_short (o:Opn):(asksE o).length≤3:=by
 unfold asksE
 rw [List.length_map]
 exact Nat.le_trans (List.length_filter_le _ _) (houses_short _)
theorem aborts_short (d:Int) (l:List Pt):(abortsE d l).length≤3:=by
 unfold abortsE
 rw [List.length_map]
 exact houses_short _
theorem flat_short {α β:Type} {f:α→List β} {b:Nat} (hf:∀x,(f x).length≤b):∀(l:List α),(l.flatMap f).length≤l.length*b
 | []=>by simp
 |x::l=>by
  rw [List.flatMap_cons,List.length_append,List.length_cons,Nat.add_mul,Nat.one_mul]
  have:=hf x
  have:=flat_short hf l
  omega
structure HGo where
 opn:List Opn
 recs:List Rc
 says:List Ms
 known:Bool
def hgoStep (m:Ms) (s:HGo) (o:Opn):HGo:=
 if o.deed=m.deed∧s.known=false then⟨s.opn++(hearO o m).1,(hearO o m).2.1,(hearO o m).2.2,true⟩ else { s with opn:=s.opn++ [o] }
def hgo (m:Ms) (l:List Opn):HGo:=l.foldl (hgoStep m) ⟨[],[],[],false⟩
theorem hgo_next (m:Ms) {l:List Opn} {j:Nat} (h:j<l.length):hgo m (l.take (j+1))=hgoStep m (hgo m (l.take j)) l[j]:=by
 unfold hgo
 rw [List.take_succ_eq_append_getElem h,List.foldl_append];rfl
theorem hgo_known (m:Ms):∀(l:List Opn) (s:HGo),s.known=true→l.foldl (hgoStep m) s={ s with opn:=s.opn++l }
 | [],s,_=>by simp
 |o::l,s,h=>by
  rw [List.foldl_cons]
  have e:hgoStep m s o={ s with opn:=s.opn++ [o] }:=by unfold hgoStep;rw [if_neg (by rw [h];simp)]
  rw [e,hgo_known m l { s with opn:=s.opn++ [o] } h]
  simp
theorem hgo_all (m:Ms):∀(l:List Opn) (p:List Opn),l.foldl (hgoStep m) ⟨p,[],[],false⟩=match hearL m l with
  |none=>⟨p++l,[],[],false⟩
  |some x=>⟨p++x.1,x.2.1,x.2.2,true⟩
 | [],p=>by simp [hearL]
 |o::l,p=>by
  rw [List.foldl_cons,hearL]
  by_cases hd:o.deed=m.deed
  ·have e:hgoStep m ⟨p,[],[],false⟩ o=⟨p++(hearO o m).1,(hearO o m).2.1,(hearO o m).2.2,true⟩:=by unfold hgoStep;rw [if_pos ⟨hd,rfl⟩]
   rw [e,hgo_known m l ⟨p++(hearO o m).1,(hearO o m).2.1,(hearO o m).2.2,true⟩ rfl,if_pos hd]
   simp
  ·have e:hgoStep m ⟨p,[],[],false⟩ o=⟨p++ [o],[],[],false⟩:=by unfold hgoStep;rw [if_neg (fun h=>hd h.1)]
   rw [e,hgo_all m l,if_neg hd]
   cases hearL m l with
   |none=>simp
   |some x=>simp
theorem hgo_hear (h:Hd) (m:Ms):hHearH h m={ h with opn:=(hgo m h.opn).opn,log:=h.log++(hgo m h.opn).recs }∧hHearM h m=(if(hgo m h.opn).known=false∧m.kind=7 then [⟨5,m.deed,m.house,[]⟩] else(hgo m h.opn).says):=by
 have e:=hgo_all m h.opn []
 unfold hHearH hHearM hgo
 rw [e]
 cases hearL m h.opn with
 |none=>simp
 |some x=>simp
theorem hgo_len (m:Ms):∀(l:List Opn) (s:HGo),(l.foldl (hgoStep m) s).opn.length≤s.opn.length+l.length
 | [],s=>by simp
 |o::l,s=>by
  rw [List.foldl_cons]
  have h1:=hgo_len m l (hgoStep m s o)
  have h2:(hgoStep m s o).opn.length≤s.opn.length+1:=by
   unfold hgoStep
   split
   ·have:(hearO o m).1.length≤1:=by
     unfold hearO
     split
     ·split<;>simp
     ·split
      ·simp
      ·split
       ·split<;>simp
       ·split<;>simp
    show(s.opn++_).length≤_
    rw [List.length_append];omega
   ·show(s.opn++_).length≤_
    simp
  rw [List.length_cons];omega
theorem wp_store_part {P:Program} {ty:TypeId} {w:World} {o:Oper} {a:Act} {K:Act→World→Prop} {Q:Exit→Act→World→Prop} (d s:Operand) (ho:o.op=.store ty d s)
  {g p:Nat} {t:TypeId} {old cells new:Array Value} (hd:a.eval d=.pointer (some ⟨g,p,none⟩)) (hs:a.eval s=.agg cells) (hrow:w.heap[g]? =some (.cells old t (0,0)))
  (hi:(P.info? ty).map (·.size)=some cells.size) (hos:p+cells.size≤old.size) (h1:cells.toList.all (·.oneCell')=true) (hnew:(old.toList.take p++cells.toList++old.toList.drop (p+cells.size)).toArray=new)
  (h:∀w',w'.heap[g]? =some (.cells new t (0,0))→w.grownBy w' (some g)→K (a.put o.dst undef) w'):o.wp P a w K Q:=by
 have hr:=run_storeCells_at (P:=P) g p t cells.toList 0 old w hrow (by simpa using hos) (fun v hv=>by simpa using List.all_eq_true.1 h1 v hv)
 simp only [Nat.add_zero,Array.length_toList] at hr
 rw [hnew] at hr
 have hr2:(storeVar ty ⟨g,p,none⟩ (.agg cells)).run P w=.ok () (w.setRow g new):=by
  cases hq:P.info? ty with
  |none=>simp [hq] at hi
  |some q=>
   have hs:cells.size=q.size:=by simp [hq] at hi;omega
   simp [storeVar,sizeOf,typeInfo,hq,Value.cells,hs] at hr ⊢
   exact hr
 unfold Oper.wp execOp
 simp only [ho,hd,hs,Instr.storeAt,Instr.sureAddr,Sem.run_bind,Sem.run_pure,Result.andThen_ok,hr2]
 exact h _ (setRow_heap w g old new t _ hrow) ⟨rfl,rfl,rfl,by simp [World.setRow],fun k hk hne=>by
  simp only [World.setRow]
  rw [Array.getElem?_modify]
  rw [if_neg (fun e=>hne (by rw [e]))]⟩
theorem wpList_store_part {P:Program} {ty:TypeId} {ops:Array Oper} {rest:List Oper} {w:World} {o:Oper} {a:Act} {Q:Exit→Act→World→Prop} (hgd:o.guard=none) (d s:Operand) (ho:o.op=.store ty d s)
  {g p:Nat} {t:TypeId} {old cells new:Array Value} (hd:a.eval d=.pointer (some ⟨g,p,none⟩)) (hs:a.eval s=.agg cells) (hrow:w.heap[g]? =some (.cells old t (0,0)))
  (hi:(P.info? ty).map (·.size)=some cells.size) (hos:p+cells.size≤old.size) (h1:cells.toList.all (·.oneCell')=true) (hnew:(old.toList.take p++cells.toList++old.toList.drop (p+cells.size)).toArray=new)
  (h:∀w',w'.heap[g]? =some (.cells new t (0,0))→w.grownBy w' (some g)→wpList P ops Q rest (a.put o.dst undef) w'):wpList P ops Q (o::rest) a w:=
 wpList_plain hgd fun _ hK=>wp_store_part d s ho hd hs hrow hi hos h1 hnew fun w' a b=>hK _ _ (h w' a b)
theorem wp_store_cell {P:Program} {ty:TypeId} {w:World} {o:Oper} {a:Act} {K:Act→World→Prop} {Q:Exit→Act→World→Prop} (d s:Operand) (ho:o.op=.store ty d s)
  {g p:Nat} {t:TypeId} {old new:Array Value} {v:Value} (hd:a.eval d=.pointer (some ⟨g,p,none⟩)) (hs:a.eval s=v) (hv:v.cells=[v].toArray) (hrow:w.heap[g]? =some (.cells old t (0,0)))
  (hi:(P.info? ty).map (·.size)=some 1) (hos:p+1≤old.size) (h1:v.oneCell'=true) (hnew:(old.toList.take p++ [v]++old.toList.drop (p+1)).toArray=new)
  (h:∀w',w'.heap[g]? =some (.cells new t (0,0))→w.grownBy w' (some g)→K (a.put o.dst undef) w'):o.wp P a w K Q:=by
 have hr:=run_storeCells_at (P:=P) g p t [v] 0 old w hrow (by simpa using hos) (fun u hu=>by rw [List.mem_singleton.1 hu];exact h1)
 simp only [Nat.add_zero,List.length_singleton] at hr
 rw [hnew] at hr
 have hr2:(storeVar ty ⟨g,p,none⟩ v).run P w=.ok () (w.setRow g new):=by
  cases hq:P.info? ty with
  |none=>simp [hq] at hi
  |some q=>
   have hs:1=q.size:=by simp [hq] at hi;omega
   simp [storeVar,sizeOf,typeInfo,hq,hv,←hs] at hr ⊢
   exact hr
 unfold Oper.wp execOp
 simp only [ho,hd,hs,Instr.storeAt,Instr.sureAddr,Sem.run_bind,Sem.run_pure,Result.andThen_ok,hr2]
 exact h _ (setRow_heap w g old new t _ hrow) ⟨rfl,rfl,rfl,by simp [World.setRow],fun k hk hne=>by
  simp only [World.setRow]
  rw [Array.getElem?_modify]
  rw [if_neg (fun e=>hne (by rw [e]))]⟩
theorem cells6 {w:World} {B:Nat} {a b c d e f:Value} {t:TypeId} (h:w.heap[B]? =some (.cells #[a,b,c,d,e,f] t (0,0))):
  w.cell? ⟨B,0,none⟩=some a∧w.cell? ⟨B,1,none⟩=some b∧w.cell? ⟨B,2,none⟩=some c∧w.cell? ⟨B,3,none⟩=some d∧w.cell? ⟨B,4,none⟩=some e∧w.cell? ⟨B,5,none⟩=some f:=by
 simp [World.cell?,h]
theorem send_map (net ms:List Ms):sendB (net.map bytesM) ms=(sendA net ms).map bytesM:=by
 unfold sendB sendA
 rw [List.map_append,List.length_map]
theorem WI.right {n:Nat} {G:Reg} {x:AW} (i:WI n G x):∀m∈x.net,wrongM m=0:=fun m hm=>right_m.2 (i.net m hm).right
theorem WI.says {n:Nat} {G:Reg} {hd:Hd} {hs:List Hs} {ms:List Ms} (h:∀m∈ms,MOk n G hd hs m):∀m∈ms,wrongM m=0:=fun m hm=>right_m.2 (h m hm).right
theorem erase_map (net:List Ms) (k:Nat):(net.map bytesM).take k++(net.map bytesM).drop (k+1)=(net.eraseIdx k).map bytesM:=by
 rw [List.eraseIdx_eq_take_drop_succ,List.map_append,List.map_take,List.map_drop]
theorem HI.keys {G:Reg} {D:List Rd} {k:Int} {h:Hs} (i:HI G D k h):∀r∈h.log,KeysOk r.parts:=fun r hr=>by
 have h2:=of_decide_eq_true (i.log r hr)
 by_cases hp:r.parts=[]
 ·rw [hp];intro p hp;simp at hp
 ·exact wrong_keys (h2.2.1 hp)
theorem houses_ok (l:List Pt):∀x∈housesE l,I64 x:=fun x hx=>by
 have h:=(List.mem_filter.1 hx).1
 simp only [List.mem_cons,List.not_mem_nil,or_false] at h
 rcases h with rfl|rfl|rfl<;>(unfold I64;decide)
theorem ints_of {w:World} {base:Nat} {e:TypeId} {v:Value} {l:List Int} (h:w.ownsRow base e 1 v l.length (l.flatMap intCell)) (hok:∀x∈l,I64 x):Sl Ty.int w.cell? v l:=(OwnC.ints (c:=w.cell?) h hok).sl (by decide) (Sub.refl _)
set_option maxRecDepth 100000 in
set_option maxHeartbeats 2000000 in
theorem ref_aborts {v:Value} {o:Opn} (w:World) (hv:Of Ty.opn w.cell? v o) (hm:o.parts.length*24≤140737488355328):
  Calls Try.prog 153 #[v] w fun e w'=>∃v',e=.returned v'∧OwnC Ty.ms (fun _=>none) w' w.heap.size 39 v' (abortsE o.deed o.parts)∧Grow w w':=by
 obtain⟨ap,cp,ah,ch,rfl⟩:=hv.opn_form
 obtain⟨hid,hp,hh⟩:=hv.opn_parts
 have HHO:=η (fun(W:World) (hW:Grow w W)=>ref_houses W (hp.mono hW.sub) hm)
 have HID:=η hid
 clear hv hp hh hid
 have R1:=η (row_new w (.cells #[.int .i64 o.deed,.slice ap o.parts.length cp,.bool o.dec,.slice ah o.heard.length ch] 136))
 go_enter Try.func153,Try.ntmps153
 go_wp2_with fail
 refine(HHO.o _ ((Grow.refl w).alloc _)).mono ?_
 rintro e w1 ⟨v1,rfl,ho1,hb1⟩
 obtain⟨a1,c1,rfl⟩:=owns_form ho1
 have hix:=ints_of ho1 (houses_ok o.parts)
 have R2:=η (row_grow R1.o hb1)
 have G1:=η (((Grow.refl w).alloc (.cells #[.int .i64 o.deed,.slice ap o.parts.length cp,.bool o.dec,.slice ah o.heard.length ch] 136)).trans hb1)
 have HL:=η (houses_short o.parts)
 have HAE:Hid ((housesE o.parts).map (fun n=>(⟨5,o.deed,n,[]⟩:Ms))=abortsE o.deed o.parts):=η rfl
 clear ho1 hb1
 generalize housesE o.parts=hs at*
 obtain⟨a1',c1',he1,-,-,-,hel⟩:=hix
 obtain⟨rfl,rfl⟩:a1=a1'∧c1=c1':=by simpa using he1
 clear he1
 go_wp2
 go_loopw [3,10] (fun s3 i wr=>∃k:Nat,k≤hs.length∧i=.int .i64 k∧Grow w1 wr∧OwnC Ty.ms (fun _=>none) wr w1.heap.size 39 s3 ((hs.take k).map fun n=>(⟨5,o.deed,n,[]⟩:Ms))) (fun _ i _=>hs.length - (intOf i).toNat)
 case atStart=>exact⟨0,by omega,rfl,Grow.refl _,OwnC.nil _ _ _ _ _⟩
 case round=>
  obtain⟨k,hk',rfl,hb,hown⟩:=hrel
  have hl3:=HL.o
  by_cases hlt:k<hs.length
  ·have HTK:=η (map_next (fun n=>(⟨5,o.deed,n,[]⟩:Ms)) hlt)
   have HLK:=η (show((hs.take k).map fun n=>(⟨5,o.deed,n,[]⟩:Ms)).length≤3 by simp;omega)
   obtain⟨bx,ox,rfl,x0,hni⟩:=intAt hel k hlt
   replace x0:=hb.sub _ _ x0
   have HNI:=η hni
   have HOWN:=η hown
   have HB:=η hb
   obtain⟨av,cv,rfl⟩:=hown.form
   obtain⟨r0,r1,r2,r3⟩:=cells4 (row_grow R2.o hb)
   have z1:w.heap.size<wr.heap.size:=(Array.getElem?_eq_some_iff.1 (row_grow R2.o hb)).1
   clear hown hb hel hni
   generalize hs[k]=n at*
   generalize (hs.take k).map (fun n=>(⟨5,o.deed,n,[]⟩:Ms))=ms at*
   go_wp2_with (first|(at_builtin;refine wpList_appc (c:=fun _=>none) (base:=w1.heap.size) (l:=ms) (m:=[⟨5,o.deed,n,[]⟩]) ei_ms rfl one_Tms (by decide) rfl (.tmp 14) (.tmp 19) rfl rfl ?own rfl (Src.of_new (T:=Ty.ms) (x:=⟨5,o.deed,n,[]⟩) (cs:=#[.int .i64 5,.int .i64 o.deed,.int .i64 n,.slice none 0 0]) ⟨_,rfl,(show I64 5 from by unfold I64;decide),HID.o,HNI.o,Sl.nil _ _⟩ _ _ ?d1) ?d2 ?d3 ?_))
   case own=>exact HOWN.o.grow ((Grow.refl _).alloc _)
   case d1=>simp
   case d2=>have:=HLK.o;simp;omega
   case d3=>have:=HB.o.size;simp;omega
   intro a9 c9 w9 ho9 hg9 hb9
   have HG9:Hid (Grow w1 w9):=η (grow_by (w0:=w1) (HB.o.alloc _) hg9 (fun q hq=>(HOWN.o.lt q hq).1))
   have HO9:=η ho9
   clear ho9 hg9 hb9
   go_wp2
   go_roundw
   case rel=>exact⟨k+1,by omega,by go_num,HG9.o,by rw [HTK.o];exact HO9.o⟩
   case measure=>simp [intOf];omega
  ·have HOWN:=η hown
   have HB:=η hb
   clear hown hb hel
   go_wp2
   go_ret
   have h9:=HOWN.o
   rw [List.take_of_length_le (by omega),HAE.o] at h9
   exact⟨_,rfl,h9.base G1.o.size,G1.o.trans HB.o⟩
theorem fr_low {w w1 W:World} {X:List (Option Nat)} (h:w.heap.size≤w1.heap.size):Sub (fr w1 W X) (fr w W X):=fun a v e=>by
 unfold fr at e
 split at e
 ·cases e
 ·rename_i hn
  rw [fr_new (by have h1:¬a.block<w1.heap.size:=fun hx=>hn (.inl hx);omega) (fun hx=>hn (.inr hx))]
  exact e
theorem of_ok {l:List Pt} (h:PtsOk l) (n:Int):PtsOk (ofL l n):=fun p hp=>h p (List.mem_filter.1 hp).1
abbrev askQ (o:Opn) (n:Int):Bool:=!decide (n∈o.heard)
set_option maxRecDepth 100000 in
set_option maxHeartbeats 2000000 in
theorem ref_asks {v:Value} {o:Opn} (w:World) (hv:Of Ty.opn w.cell? v o) (hm:o.parts.length*24≤140737488355328):
  Calls Try.prog 155 #[v] w fun e w'=>∃v',e=.returned v'∧OwnC Ty.ms (fr w w' [v'.ownBlock]) w' w.heap.size 39 v' (asksE o)∧Grow w w':=by
 obtain⟨ap,cp,ah,ch,rfl⟩:=hv.opn_form
 obtain⟨hid,hp,hh⟩:=hv.opn_parts
 have HHO:=η (fun(W:World) (hW:Grow w W)=>ref_houses W (hp.mono hW.sub) hm)
 have HOF:=η (fun(n:Int) (W:World) (hW:Grow w W)=>ref_of (n:=n) W (hp.mono hW.sub) hm)
 have HIN:=η (fun(n:Int) (W:World) (hW:Grow w W)=>ref_in (n:=n) W (hh.mono hW.sub))
 have HPK:=η (Pts.ok hp)
 have HID:=η hid
 clear hv hp hh hid
 have R1:=η (row_new w (.cells #[.int .i64 o.deed,.slice ap o.parts.length cp,.bool o.dec,.slice ah o.heard.length ch] 136))
 go_enter Try.func155,Try.ntmps155
 go_wp2_with fail
 refine(HHO.o _ ((Grow.refl w).alloc _)).mono ?_
 rintro e w1 ⟨v1,rfl,ho1,hb1⟩
 obtain⟨a1,c1,rfl⟩:=owns_form ho1
 have hix:=ints_of ho1 (houses_ok o.parts)
 have R2:=η (row_grow R1.o hb1)
 have G1:=η (((Grow.refl w).alloc (.cells #[.int .i64 o.deed,.slice ap o.parts.length cp,.bool o.dec,.slice ah o.heard.length ch] 136)).trans hb1)
 have HL:=η (houses_short o.parts)
 have HAE:Hid (((housesE o.parts).filter (askQ o)).map (commitM o)=asksE o):=η rfl
 clear ho1 hb1
 generalize housesE o.parts=hs at*
 obtain⟨a1',c1',he1,-,-,-,hel⟩:=hix
 obtain⟨rfl,rfl⟩:a1=a1'∧c1=c1':=by simpa using he1
 clear he1
 go_wp2
 go_loopw [3,10] (fun s3 i wr=>∃k:Nat,k≤hs.length∧i=.int .i64 k∧Grow w1 wr∧OwnC Ty.ms (fr w1 wr [s3.ownBlock]) wr w1.heap.size 39 s3 (((hs.take k).filter (askQ o)).map (commitM o))) (fun _ i _=>hs.length - (intOf i).toNat)
 case atStart=>exact⟨0,by omega,rfl,Grow.refl _,OwnC.nil _ _ _ _ _⟩
 case round=>
  obtain⟨k,hk',rfl,hb,hown⟩:=hrel
  have hl3:=HL.o
  by_cases hlt:k<hs.length
  ·have HTK:=η (fmap_next (askQ o) (commitM o) hlt)
   have HLK:=η (show(((hs.take k).filter (askQ o)).map (commitM o)).length≤3 by rw [List.length_map];exact Nat.le_trans (List.length_filter_le _ _) (by simp;omega))
   obtain⟨bx,ox,rfl,x0,hni⟩:=intAt hel k hlt
   replace x0:=hb.sub _ _ x0
   have HNI:=η hni
   have HOWN:=η hown
   have HB:=η hb
   have GW:=η (G1.o.trans hb)
   have RR:=η (row_grow R2.o hb)
   obtain⟨av,cv,rfl⟩:=hown.form
   obtain⟨r0,r1,r2,r3⟩:=cells4 RR.o
   have z1:w.heap.size<wr.heap.size:=(γ RR.o)
   clear hown hb hel hni
   generalize hs[k]=n at*
   generalize ((hs.take k).filter (askQ o)).map (commitM o)=ms at*
   go_wp2_with fail
   refine(HIN.o n _ GW.o).mono ?_
   rintro e w2 ⟨rfl,hb2⟩
   have G2:=η (GW.o.trans hb2)
   have HB2:=η (HB.o.trans hb2)
   have R5:=η (row_grow RR.o hb2)
   have HO2:=η ((HOWN.o.mono (fr_grow hb2)).grow hb2)
   clear hb2 r0 r1 r2 r3 z1 x0
   obtain⟨r0,r1,r2,r3⟩:=cells4 R5.o
   have z1:w.heap.size<w2.heap.size:=(γ R5.o)
   by_cases hq:n∈o.heard
   ·have hqb:decide (n∈o.heard)=true:=decide_eq_true hq
    have HT:=η HTK.o
    rw [if_neg (by show¬askQ o n=true;simp [askQ,hq])] at HT
    rw [hqb]
    clear hq
    go_wp2
    go_roundw
    case rel=>exact⟨k+1,by omega,by go_num,HB2.o,by rw [HT.o];exact HO2.o⟩
    case measure=>simp [intOf];omega
   ·have hqb:decide (n∈o.heard)=false:=decide_eq_false hq
    have HT:=η HTK.o
    rw [if_pos (by show askQ o n=true;simp [askQ,hq])] at HT
    rw [hqb]
    clear hq
    by_cases hd:o.dec=true
    ·have HCM:Hid (commitM o n=⟨4,o.deed,n,[]⟩):=η (by unfold commitM;rw [if_pos hd])
     rw [HCM.o] at HT
     rw [hd] at r2
     clear hd
     go_wp2_with (first|(at_builtin;refine wpList_appc (c:=fr w1 w2 [(Value.slice av ms.length cv).ownBlock]) (base:=w1.heap.size) (l:=ms) (m:=[⟨4,o.deed,n,[]⟩]) ei_ms rfl one_Tms (by decide) rfl (.tmp 33) (.tmp 38) rfl rfl ?own rfl (Src.of_new (T:=Ty.ms) (x:=⟨4,o.deed,n,[]⟩) (cs:=#[.int .i64 4,.int .i64 o.deed,.int .i64 n,.slice none 0 0]) ⟨_,rfl,(show I64 4 from by unfold I64;decide),HID.o,HNI.o,Sl.nil _ _⟩ _ _ ?d1) ?d2 ?d3 ?_))
     case own=>exact HO2.o.grow ((Grow.refl _).alloc _)
     case d1=>simp
     case d2=>have:=HLK.o;simp;omega
     case d3=>have:=HB2.o.size;simp;omega
     intro a9 c9 w9 ho9 hg9 hb9
     have HG9:Hid (Grow w1 w9):=η (grow_by (w0:=w1) (HB2.o.alloc _) hg9 (fun q hq=>(HOWN.o.lt q hq).1))
     have HO9:=η ((ho9.mono (fr_grow ((Grow.refl w2).alloc (.cells #[.int .i64 4,.int .i64 o.deed,.int .i64 n,.slice none 0 0] 39)))).mono (fr_app hg9 (hb9.imp_right fun⟨g,e,hge⟩=>⟨g,e,by simpa using hge⟩)))
     clear ho9 hg9 hb9
     go_wp2
     go_roundw
     case rel=>exact⟨k+1,by omega,by go_num,HG9.o,by rw [HT.o];exact HO9.o⟩
     case measure=>simp [intOf];omega
    ·have hd':o.dec=false:=by simpa using hd
     have HCM:Hid (commitM o n=⟨1,o.deed,n,ofL o.parts n⟩):=η (by unfold commitM;rw [if_neg hd])
     rw [HCM.o] at HT
     rw [hd'] at r2
     clear hd hd'
     have HOK:=η (of_ok HPK.o n)
     have HS:Hid (∀W,Grow w2 W→W.cell? ⟨w.heap.size,0,none⟩=some (.int .i64 o.deed)∧W.cell? ⟨w.heap.size,1,none⟩=some (.slice ap o.parts.length cp)):=fun W hW=>⟨hW.sub _ _ r0,hW.sub _ _ r1⟩
     go_upto_region 5 with fail
     refine but_start (fun w'=>w'.cell? ⟨w.heap.size,0,none⟩=some (.int .i64 o.deed)∧w'.cell? ⟨w.heap.size,1,none⟩=some (.slice ap o.parts.length cp)) 11 (by kernel_rfl) ?_
     obtain⟨wd,hWd⟩:∃x:World,x=w2.drew:=⟨_,rfl⟩
     rw [←hWd]
     have GD:Grow w2 wd:=by rw [hWd];exact(Grow.refl _).drew
     have zD:w2.heap.size=wd.heap.size:=by rw [hWd];rfl
     have ZD:=η zD
     clear hWd zD
     refine bLm [0] 14 (by kernel_rfl) (fun _ _ _ _ _ h=>h) (HS.o _ GD) ?_
     repeat (refine tNm (v:=?_) rfl (by rfl) ?_ ?_;rotate_left;(· (intro w' hSw;(try dsimp only at hSw);obtain⟨hs0,hs1⟩:=hSw;go_simp<;>with_reducible rfl));try simp only [Act.put,lzA,lzC,lzD,lzE,lzF])
     refine tEm ?_
     refine bLm [1,2,3,4,5,6] 14 (by kernel_rfl) (fun _ _ _ _ _ h=>h) (HS.o _ GD) ?_
     repeat (refine tNm (v:=?_) rfl (by rfl) ?_ ?_;rotate_left;(· (intro w' hSw;(try dsimp only at hSw);obtain⟨hs0,hs1⟩:=hSw;go_simp<;>with_reducible rfl));try simp only [Act.put,lzA,lzB,lzC,lzD,lzE,lzF])
     refine tEm ?_
     refine bO 7 (by kernel_rfl) rfl ?_
     intro K HK
     try simp only [lzA,lzB,lzC]
     go_simp
     go_at_call 83
     refine(HOF.o n _ (G2.o.trans GD)).mono ?_
     rintro e5 w5 ⟨v5,rfl,ho5,hb5⟩
     obtain⟨a5,c5,rfl⟩:=owns_form ho5
     have HO5:=η ho5
     have G5:=η (Grow.trans GD hb5)
     have ZD5:=η (GD).size
     clear ho5 hb5
     generalize ofL o.parts n=pl at*
     refine HK.o _ _ ⟨fun _=>HS.o _ G5.o,?_⟩
     clear HK K
     try simp only [Act.put,lzA,lzB,lzC,lzD,lzE,lzF]
     refine bO 8 (by kernel_rfl) rfl ?_
     intro K HK
     try simp only [lzA,lzB,lzC]
     go_simp
     refine HK.o _ _ ⟨fun _=>HS.o _ G5.o,?_⟩
     clear HK K
     try simp only [Act.put,lzA,lzB,lzC,lzD,lzE,lzF]
     refine bO 9 (by kernel_rfl) rfl ?_
     intro K HK
     try simp only [lzA,lzB,lzC]
     go_simp
     obtain⟨w6,hw6⟩:∃y:World,y=w5.alloc (.cells #[.int .i64 1,.int .i64 o.deed,.int .i64 n,.slice a5 pl.length c5] 39):=⟨_,rfl⟩
     have G6:Hid (Grow w5 w6):=η (by rw [hw6];exact(Grow.refl _).alloc _)
     have HG6:=η (G5.o.trans G6.o)
     have HSR:Hid (Src Ty.ms (fr w1 w6 [(Value.slice av ms.length cv).ownBlock]) w6 (.slice (some ⟨w5.heap.size,0,none⟩) 1 1) [⟨1,o.deed,n,pl⟩]):=η (by
      have hlt2:=HOWN.o.lt
      have hsl:Sl Ty.pt (fr w1 w6 [(Value.slice av ms.length cv).ownBlock]) (.slice a5 pl.length c5) pl:=by
       refine pts_fr (w1:=wd) (owns_grow HO5.o G6.o) HOK.o ?_ ?_
       ·have:=HB2.o.size;have:=ZD5.o;omega
       ·intro q hq
        simp only [List.mem_singleton]
        intro e
        have:=(HO2.o.lt q e.symm).2
        have:=ZD5.o
        omega
      rw [hw6] at hsl ⊢
      exact Src.of_new (T:=Ty.ms) (x:=⟨1,o.deed,n,pl⟩) (cs:=#[.int .i64 1,.int .i64 o.deed,.int .i64 n,.slice a5 pl.length c5]) ⟨_,rfl,(show I64 1 from by unfold I64;decide),HID.o,HNI.o,hsl⟩ _ _ rfl)
     rw [←hw6]
     clear hw6
     refine HK.o _ _ ⟨fun _=>HS.o _ HG6.o,?_⟩
     clear HK K
     try simp only [Act.put,lzA,lzB,lzC,lzD,lzE,lzF]
     refine bO 10 (by kernel_rfl) rfl ?_
     intro K HK
     refine wanted_go rfl ?_
     try simp only [lzA,lzB,lzC]
     refine wp_appc (c:=fr w1 w6 [(Value.slice av ms.length cv).ownBlock]) (base:=w1.heap.size) (l:=ms) (m:=[⟨1,o.deed,n,pl⟩]) (v:=.slice av ms.length cv) ei_ms rfl one_Tms (by decide) (.tmp 14) (.tmp 23) rfl rfl ((HO2.o.mono (fr_grow HG6.o)).grow HG6.o) rfl HSR.o (by have:=HLK.o;simp;omega) (by have:=HB2.o.size;have:=HG6.o.size;omega) ?_
     intro a9 c9 w9 ho9 hg9 hb9
     have HGW9:Hid (Grow w1 w9):=η (grow_by (w0:=w1) (HB2.o.trans HG6.o) hg9 (fun q hq=>(HOWN.o.lt q hq).1))
     have HO9:=η (ho9.mono (fr_app hg9 (hb9.imp_right fun⟨g,e,hge⟩=>⟨g,e,hge⟩)))
     have HS9:Hid (w9.cell? ⟨w.heap.size,0,none⟩=some (.int .i64 o.deed)∧w9.cell? ⟨w.heap.size,1,none⟩=some (.slice ap o.parts.length cp)):=η (by obtain⟨k0,k1,-,-⟩:=cells4 (row_grow R2.o HGW9.o);exact⟨k0,k1⟩)
     clear ho9 hg9 hb9
     refine HK.o _ _ ⟨fun _=>HS9.o,?_⟩
     clear HK K
     try simp only [Act.put,lzD,lzE,lzF]
     refine bO 11 (by kernel_rfl) rfl ?_
     intro K HK
     try simp only [lzA,lzB,lzC]
     go_simp
     refine HK.o _ _ ⟨fun h=>absurd rfl h,?_⟩
     clear HK K
     try simp only [Act.put,lzA,lzB,lzC,lzD,lzE,lzF]
     refine but_done (by kernel_rfl) ?_
     go_wp2
     go_roundw
     case rel=>exact⟨k+1,by omega,by go_num,HGW9.o,by rw [HT.o];exact HO9.o⟩
     case measure=>simp [intOf];omega
  ·have HOWN:=η hown
   have HB:=η hb
   clear hown hb hel
   go_wp2
   go_ret
   have h9:=HOWN.o
   rw [List.take_of_length_le (by omega),HAE.o] at h9
   exact⟨_,rfl,(h9.mono (fr_low G1.o.size)).base G1.o.size,G1.o.trans HB.o⟩
structure KOk (h:Hd) (n:Nat):Prop where
 opn:h.opn.length≤n
 boot:I64 h.boot
 next:I64 h.next
theorem kok_step {h:Hd} {n:Nat} (k:KOk h n) (r:Rc):KOk (headStep h r) (n+1):=by
 have h1:=k.opn
 unfold headStep
 split
 ·exact⟨by show h.opn.length≤_;omega,wrap_ok _,k.next⟩
 ·split
  ·exact⟨by simp;omega,k.boot,k.next⟩
  ·split
   ·exact⟨Nat.le_trans (List.length_filter_le _ _) (by omega),k.boot,k.next⟩
   ·exact⟨by omega,k.boot,k.next⟩
set_option maxRecDepth 100000 in
set_option maxHeartbeats 4000000 in
theorem wlog_head {v:Value} {l:List Rc} (w:World) (hv:Rcs w.cell? v l) (hm:l.length*64≤140737488351232) (hp:∀r∈l,r.parts.length*24≤140737488355328):
  Calls Try.prog 42 #[v] w fun e w'=>∃v',e=.returned v'∧Of Ty.hd (ov (fun _=>none) w w') v' (headR l)∧Grow w w':=by
 have HOWN:=η (log_own (w.alloc (.cells zhead 57)) (hv.mono ((Grow.refl w).alloc _).sub) (by omega) hp)
 have HM:=η hm
 have HP:=η hp
 obtain⟨al0,cl0,rfl,-⟩:=hv
 have hlm:l.length≤2199023255489:=by omega
 clear hm hp
 go_enter Try.func42,Try.ntmps42
 go_wp2_with fail
 refine HOWN.o.mono ?_
 rintro e w1 ⟨vl,rfl,hown,hb1⟩
 obtain⟨al,cl,rfl⟩:=hown.form
 have HOW:=η hown
 have HB1:=η hb1
 have z1:w.heap.size+1≤w1.heap.size:=by have:=hb1.size;simpa using this
 clear hown hb1
 go_wp2
 go_loopw [12] (fun i wr=>∃(k:Nat) (h:Hd) (vo:Value),k≤l.length∧i=.int .i64 k∧(l.take k).foldl headStep ⟨l,0,0,[]⟩=h∧KBox w w1 wr (.slice al l.length cl) vo l h∧KOk h k) (fun i _=>l.length - (intOf i).toNat)
 case atStart=>
  refine⟨0,⟨l,0,0,[]⟩,.slice none 0 0,by omega,rfl,rfl,?_,⟨by simp,zero_ok,zero_ok⟩⟩
  have hl:=HOW.o.lt
  refine⟨row_grow (row_new w _) (HB1.o.alloc _),row_new _ _,?_,OwnC.nil _ _ _ _ _,((Grow.refl w).alloc _).trans (HB1.o.alloc _),by simp,fun k hk=>(hl k hk).2,z1⟩
  have hs0:(w.alloc (.cells zhead 57)).heap.size=w.heap.size+1:=by simp
  have h2:=HOW.o
  rw [hs0] at h2
  refine(h2.mono fun a u e=>?_).grow ((Grow.refl _).alloc _)
  unfold fr at e
  split at e
  ·cases e
  ·rename_i hn
   have hlt:=World.block_lt_of_cell? w1 a e
   rw [hs0] at hn
   unfold kmem
   rw [fr_new (by omega)]
   ·exact((Grow.refl w1).alloc _).sub _ _ e
   ·simp only [List.mem_cons,List.not_mem_nil,or_false,not_or]
    refine⟨fun e=>hn (.inr (by simp [e])),by simp [Value.ownBlock],fun e=>?_,fun e=>?_⟩
    ·have:=Option.some.inj e;exact hn (.inl (by omega))
    ·have:=Option.some.inj e;omega
 case round=>
  obtain⟨k,h,vo,hk',rfl,hfold,hbox,hok⟩:=hrel
  obtain⟨ar,cr,rfl⟩:=hbox.opn.form
  have HFD:=η hfold
  have HBX:=η hbox
  have HOK0:=η hok
  have z3:=hbox.size
  have z4:w1.heap.size<wr.heap.size:=by omega
  by_cases hlt:k<l.length
  ·obtain⟨gl,cs,rfl,⟨vp,rfl,i0,i1,hP⟩,hA⟩:=hbox.log.get (by decide) k hlt
   have hP':=hP.mono (fr_sub _ _ _)
   obtain⟨ap,cp,rfl,-⟩:=id hP'
   have c0:=hA 0 _ rfl
   have c1:=hA 1 _ rfl
   have c2:=hA 2 _ rfl
   simp only [Nat.add_zero,Ty.rc] at c0 c1 c2
   have htk:(l.take (k+1)).foldl headStep ⟨l,0,0,[]⟩=headStep h l[k]:=by rw [List.take_succ_eq_append_getElem hlt,List.foldl_append,HFD.o];rfl
   have HTK:=η htk
   have hpl:=HP.o l[k] (List.getElem_mem _)
   have HCL:=η (fun(W:World) (hW:Grow wr W)=>clone_pt W (hP'.mono hW.sub) hpl)
   have HI:=η (And.intro i0 (And.intro i1 (Pts.ok (c:=wr.cell?) hP')))
   have HOK1:=η (kok_step hok l[k])
   have HRL:Hid (h.opn.length<2199023255489):=η (by have:=hok.opn;omega)
   have HLT:Hid (∀q,(Value.slice ar h.opn.length cr).ownBlock=some q→q<wr.heap.size):=fun q hq=>(hbox.opn.lt q hq).2
   clear hfold hok htk hpl hP hP' hA i0 i1 hbox
   generalize l[k]=r at*
   obtain⟨s0,s1,s2,s3⟩:=cells4 HBX.o.row
   have sf:=row_free HBX.o.row
   by_cases k4:r.kind=4
   ·have b4:(r.kind==4)=true:=by simp [k4]
    have b5:(r.kind==5)=false:=by simp [k4]
    have b6:(r.kind==6)=false:=by simp [k4]
    have hst:headStep h r={ h with boot:=wrap64 (h.boot+1) }:=by unfold headStep;rw [if_pos k4]
    have HFO:=η (HTK.o.trans hst)
    have HOK:=η (hst▸HOK1.o)
    clear hst k4
    have HX:=(KBox.boot HBX.o (Grow.refl wr) (wrap64 (h.boot+1))).later ((Grow.refl _).alloc (.cells #[.int .i64 r.kind,.int .i64 r.deed,.slice ap r.parts.length cp] 48))
    go_wp2
    go_roundw
    case rel=>exact⟨k+1,_,_,by omega,by go_num,HFO.o,HX,HOK.o⟩
    case measure=>simp [intOf];omega
   ·have b4:(r.kind==4)=false:=by simp [k4]
    by_cases k5:r.kind=5
    ·have b5:(r.kind==5)=true:=by simp [k5]
     have b6:(r.kind==6)=false:=by simp [k5]
     have hst:headStep h r={ h with opn:=h.opn++ [⟨r.deed,r.parts,true,[]⟩] }:=by unfold headStep;rw [if_neg k4,if_pos k5]
     have HFO:=η (HTK.o.trans hst)
     have HOK:=η (hst▸HOK1.o)
     clear hst k4 k5
     go_wp2
     obtain⟨w2,hWE⟩:∃x:World,x=wr.alloc (.cells #[.int .i64 r.kind,.int .i64 r.deed,.slice ap r.parts.length cp] 48):=⟨_,rfl⟩
     rw [←hWE]
     have HG2:Hid (Grow wr w2):=η (by rw [hWE];exact(Grow.refl wr).alloc _)
     have r5:w2.heap[wr.heap.size]? =some (.cells #[.int .i64 r.kind,.int .i64 r.deed,.slice ap r.parts.length cp] 48 (0,0)):=by rw [hWE];exact row_new _ _
     have HR5:=η r5
     clear hWE r5 s0 s1 s2 s3
     have HB2:=η (HBX.o.later HG2.o)
     obtain⟨s0,s1,s2,s3⟩:=cells4 HB2.o.row
     obtain⟨q0,q1,q2⟩:=cells3 HR5.o
     have l3:w1.heap.size<w2.heap.size:=by have:=HB2.o.size;omega
     have l5:wr.heap.size<w2.heap.size:=(γ HR5.o)
     have n3:(Value.slice ar h.opn.length cr).ownBlock≠some w1.heap.size:=fun e=>by have:=(HB2.o.opn.lt _ e).1;omega
     have n5:(Value.slice ar h.opn.length cr).ownBlock≠some wr.heap.size:=fun e=>by have:=HLT.o _ e;omega
     have HS:Hid (∀W,w2.grownBy W (Value.slice ar h.opn.length cr).ownBlock→W.cell? ⟨w1.heap.size,3,none⟩=some (.slice ar h.opn.length cr)∧W.cell? ⟨wr.heap.size,1,none⟩=some (.int .i64 r.deed)∧W.cell? ⟨wr.heap.size,2,none⟩=some (.slice ap r.parts.length cp)):=fun W hW=>⟨by rw [World.cell?_of_block (hW.block w1.heap.size l3 (fun e=>n3 e.symm))];exact s3,by rw [World.cell?_of_block (hW.block wr.heap.size l5 (fun e=>n5 e.symm))];exact q1,by rw [World.cell?_of_block (hW.block wr.heap.size l5 (fun e=>n5 e.symm))];exact q2⟩
     clear s0 s1 s2 s3 q0 q1 q2
     refine but_start (fun w'=>w'.cell? ⟨w1.heap.size,3,none⟩=some (.slice ar h.opn.length cr)∧w'.cell? ⟨wr.heap.size,1,none⟩=some (.int .i64 r.deed)∧w'.cell? ⟨wr.heap.size,2,none⟩=some (.slice ap r.parts.length cp)) 11 (by kernel_rfl) ?_
     obtain⟨wd,hWd⟩:∃x:World,x=w2.drew:=⟨_,rfl⟩
     rw [←hWd]
     have GD:Grow w2 wd:=by rw [hWd];exact(Grow.refl _).drew
     have zD:w2.heap.size=wd.heap.size:=by rw [hWd];rfl
     have ZD:=η zD
     clear hWd zD
     refine bLm [0] 8 (by kernel_rfl) (fun _ _ _ _ _ h=>h) (HS.o _ (grownBy_of_grow GD _)) ?_
     repeat (refine tNm (v:=?_) rfl (by rfl) ?_ ?_;rotate_left;(· (intro w' hSw;(try dsimp only at hSw);obtain⟨hs0,hs1,hs2⟩:=hSw;go_simp<;>with_reducible rfl));try simp only [Act.put,lzA,lzC,lzD,lzE,lzF])
     refine tEm ?_
     refine bLm [1,2,3,4,5] 8 (by kernel_rfl) (fun _ _ _ _ _ h=>h) (HS.o _ (grownBy_of_grow GD _)) ?_
     repeat (refine tNm (v:=?_) rfl (by rfl) ?_ ?_;rotate_left;(· (intro w' hSw;(try dsimp only at hSw);obtain⟨hs0,hs1,hs2⟩:=hSw;go_simp<;>with_reducible rfl));try simp only [Act.put,lzA,lzB,lzC,lzD,lzE,lzF])
     refine tEm ?_
     refine bO 6 (by kernel_rfl) rfl ?_
     intro K HK
     try simp only [lzA,lzB,lzC]
     go_simp
     go_at_call 122
     refine(HCL.o _ (HG2.o.trans GD)).mono ?_
     rintro e w3 ⟨v3,rfl,ho3,hb3⟩
     obtain⟨a3,c3,rfl⟩:=owns_form ho3
     have HO3:=η ho3
     have G3:=GD.trans hb3
     clear ho3 hb3
     refine HK.o _ _ ⟨fun _=>HS.o _ (grownBy_of_grow G3 _),?_⟩
     clear HK K
     try simp only [Act.put,lzA,lzB,lzC,lzD,lzE,lzF]
     refine bO 7 (by kernel_rfl) rfl ?_
     intro K HK
     try simp only [lzA,lzB,lzC]
     go_simp
     refine HK.o _ _ ⟨fun _=>HS.o _ (grownBy_of_grow G3 _),?_⟩
     clear HK K
     try simp only [Act.put,lzA,lzB,lzC,lzD,lzE,lzF]
     refine bO 8 (by kernel_rfl) rfl ?_
     intro K HK
     try simp only [lzA,lzB,lzC]
     go_simp
     refine HK.o _ _ ⟨fun _=>HS.o _ (grownBy_of_grow (G3.alloc _) _),?_⟩
     clear HK K
     try simp only [Act.put,lzA,lzB,lzC,lzD,lzE,lzF]
     refine bO 9 (by kernel_rfl) rfl ?_
     intro K HK
     refine wanted_go rfl ?_
     try simp only [lzA,lzB,lzC]
     have bA:=HB2.o.later (w':=(w3.alloc (.cells #[.int .i64 r.deed,.slice a3 r.parts.length c3,.bool true,.slice none 0 0] 136))) (G3.alloc _)
     have hR9:Ty.opn.R (kmem w w1 (w3.alloc (.cells #[.int .i64 r.deed,.slice a3 r.parts.length c3,.bool true,.slice none 0 0] 136)) (.slice (some ⟨gl,0,none⟩) l.length cl) (Value.slice ar h.opn.length cr)) (#[.int .i64 r.deed,.slice a3 r.parts.length c3,.bool true,.slice none 0 0]:Array Value).toList ⟨r.deed,r.parts,true,[]⟩:=by
      refine⟨_,_,rfl,HI.o.2.1,pts_fr (w1:=wd) ((HO3.o).kept (grownBy_of_grow ((Grow.refl _).alloc _) none) (by cases (Value.slice a3 r.parts.length c3).ownBlock<;>simp)) HI.o.2.2 (by have:=HB2.o.grow.size;have:=GD.size;omega) fun q hq=>?_,Sl.nil _ _⟩
      have z1:=HB2.o.opn.lt
      have z2:=HB2.o.log.lt
      have z4:=HB2.o.size
      have z5:=HB2.o.w1
      have z6:=GD.size
      simp only [List.mem_cons,List.not_mem_nil,or_false,not_or]
      exact⟨fun e=>by have:=(z2 q e.symm).2;omega,fun e=>by have:=(z1 q e.symm).2;omega,fun e=>by have:=Option.some.inj e;omega,fun e=>by have:=Option.some.inj e;omega⟩
     have HR9:=η hR9
     have HBA:=η bA
     clear hR9 bA
     refine wp_appc (c:=(kmem w w1 (w3.alloc (.cells #[.int .i64 r.deed,.slice a3 r.parts.length c3,.bool true,.slice none 0 0] 136)) (.slice (some ⟨gl,0,none⟩) l.length cl) (Value.slice ar h.opn.length cr))) (base:=w1.heap.size+1) (l:=h.opn) (m:=[⟨r.deed,r.parts,true,[]⟩]) ei_opn rfl one_Topn (by decide) (.tmp 27) (.tmp 34) rfl rfl HBA.o.opn rfl (Src.of_new (T:=Ty.opn) (cs:=#[.int .i64 r.deed,.slice a3 r.parts.length c3,.bool true,.slice none 0 0]) HR9.o _ _ rfl) (by have:=HRL.o;simp;omega) HBA.o.size ?_
     intro a9 c9 w9 ho9 hg9 hb9
     have HO9:=η ho9
     have HG9:=η hg9
     have HB9:=η hb9
     have GB9:=η (grownBy_trans (grownBy_of_grow (G3.alloc _) _) hg9)
     obtain⟨t5,-,-⟩:=HS.o _ GB9.o
     have tf:∀o,w9.frozen? ⟨w1.heap.size,o,none⟩=false:=row_free (row_by HBA.o.row hg9 (fun e=>n3 e.symm))
     have t9:w1.heap.size<w9.heap.size:=World.block_lt_of_cell? w9 _ t5
     clear ho9 hg9 hb9
     refine HK.o _ _ ⟨fun _=>HS.o _ GB9.o,?_⟩
     clear HK K
     try simp only [Act.put,lzD,lzE,lzF]
     refine bO 10 (by kernel_rfl) rfl ?_
     intro K HK
     try simp only [lzA,lzB,lzC]
     go_simp
     refine HK.o _ _ ⟨fun _=>HS.o _ GB9.o,?_⟩
     clear HK K
     try simp only [Act.put,lzA,lzB,lzC,lzD,lzE,lzF]
     refine bO 11 (by kernel_rfl) rfl ?_
     intro K HK
     try simp only [lzA,lzB,lzC]
     go_simp
     refine HK.o _ _ ⟨fun h=>absurd rfl h,?_⟩
     clear HK K
     try simp only [Act.put,lzA,lzB,lzC,lzD,lzE,lzF]
     refine but_done (by kernel_rfl) ?_
     have HX:=KBox.opns HB2.o (G3.alloc _) HO9.o HG9.o (HB9.o.imp_right fun⟨g,e,hge⟩=>⟨g,e,by simpa using hge⟩)
     go_wp2
     go_roundw
     case rel=>exact⟨k+1,_,_,by omega,by go_num,HFO.o,HX,HOK.o⟩
     case measure=>simp [intOf];omega
    ·have b5:(r.kind==5)=false:=by simp [k5]
     by_cases k6:r.kind=6
     ·have b6:(r.kind==6)=true:=by simp [k6]
      have hst:headStep h r={ h with opn:=h.opn.filter fun o=>!(o.deed==r.deed) }:=by unfold headStep;rw [if_neg k4,if_neg k5,if_pos k6]
      have HFO:=η (HTK.o.trans hst)
      have HOK:=η (hst▸HOK1.o)
      clear hst k4 k5 k6
      go_wp2_with fail
      have HG2:Hid (Grow wr (wr.alloc (.cells #[.int .i64 r.kind,.int .i64 r.deed,.slice ap r.parts.length cp] 48))):=η ((Grow.refl wr).alloc _)
      have HB2:=η (HBX.o.later HG2.o)
      have n3:(Value.slice ar h.opn.length cr).ownBlock≠some w1.heap.size:=fun e=>by have:=(HB2.o.opn.lt _ e).1;omega
      refine(deleteFunc_opn_c (p:=fun o=>o.deed==r.deed) (c:=kmem w w1 (wr.alloc (.cells #[.int .i64 r.kind,.int .i64 r.deed,.slice ap r.parts.length cp] 48)) (.slice (some ⟨gl,0,none⟩) l.length cl) (Value.slice ar h.opn.length cr)) ?_ HB2.o.opn (lhead_tells _ _ wr.heap.size r.deed _ (by rw [World.cell?_alloc_new];rfl) (by simp) (fun e=>by have:=HLT.o _ e;omega))).mono ?_
      ·intro a u e
       unfold kmem fr at e
       split at e
       ·cases e
       ·rename_i hn
        unfold frag
        rw [if_neg (fun e=>hn (.inr (by simp [e])))]
        exact e
      rintro e w7 ⟨v7,rfl,ho7,hg7,hb7⟩
      obtain⟨a7,c7,rfl⟩:=ho7.form
      have t7:=row_by HB2.o.row hg7 (fun e=>n3 e.symm)
      have HX:=η (KBox.opns HB2.o (Grow.refl _) ho7 hg7 (.inl hb7))
      clear s0 s1 s2 s3 sf ho7 hg7 hb7
      obtain⟨u0,u1,u2,u3⟩:=cells4 t7
      have uf:=row_free t7
      have u9:w1.heap.size<w7.heap.size:=(γ t7)
      clear t7
      go_wp2
      go_roundw
      case rel=>exact⟨k+1,_,_,by omega,by go_num,HFO.o,HX.o,HOK.o⟩
      case measure=>simp [intOf];omega
     ·have b6:(r.kind==6)=false:=by simp [k6]
      have hst:headStep h r=h:=by unfold headStep;rw [if_neg k4,if_neg k5,if_neg k6]
      have HFO:=η (HTK.o.trans hst)
      have HOK:=η (hst▸HOK1.o)
      clear hst k4 k5 k6
      go_wp2
      go_roundw
      case rel=>exact⟨k+1,_,_,by omega,by go_num,HFO.o,HBX.o.later ((Grow.refl wr).alloc _),HOK.o⟩
      case measure=>simp [intOf];omega
  ·have HH:Hid (h=headR l):=by show h=_;rw [←HFD.o,List.take_of_length_le (by omega)];rfl
   obtain⟨s0,s1,s2,s3⟩:=cells4 hbox.row
   clear hfold hok hbox
   go_wp2_with (first|(refine wpList_store_row rfl (.tmp 2) (.tmp 45) rfl rfl rfl HBX.o.res info_hd rfl rfl ?_))
   intro wf r2 g2
   obtain⟨p0,p1,p2,p3⟩:=cells4 r2
   have pf:=row_free r2
   clear s0 s1 s2 s3
   go_wp2
   refine bodyPost_ret (v:=.agg #[.slice al l.length cl,.int .i64 h.boot,.int .i64 h.next,.slice ar h.opn.length cr]) (by simp [results,Try.results42,go_sem,p0,p1,p2,p3]) rfl ?_
   have hlog:h.log=l:=by rw [HH.o];exact(headR_next l).2
   have sub:Sub (kmem w w1 wr (.slice al l.length cl) (.slice ar h.opn.length cr)) (ov (fun _=>none) w wf):=fun a u e=>by
    unfold kmem fr at e
    split at e
    ·cases e
    ·rename_i hn
     have hne:a.block≠w.heap.size:=fun e=>hn (.inr (by simp [e]))
     rw [ov_new (by omega),by_cell g2 (World.block_lt_of_cell? wr a e) hne]
     exact e
   have hb:∀k,w.heap.size+1≤k→k<wr.heap.size→wf.heap[k]? =wr.heap[k]?:=fun k h1 h2=>g2.block k h2 (by simp;omega)
   have hw1:=HBX.o.w1
   have e1:=((HBX.o.log.mono sub).block fun k hk=>hb k (HBX.o.log.lt k hk).1 (HBX.o.log.lt k hk).2).slc (by decide) (Sub.refl _) fun a ha=>ov_new (by omega)
   have e2:=((HBX.o.opn.mono sub).block fun k hk=>hb k (by have:=(HBX.o.opn.lt k hk).1;omega) (HBX.o.opn.lt k hk).2).slc (by decide) (Sub.refl _) fun a ha=>ov_new (by omega)
   rw [←HH.o]
   refine⟨_,rfl,⟨_,rfl,_,_,rfl,?_,HOK0.o.boot,HOK0.o.next,e2⟩,HBX.o.grow.grown g2 (fun k hk=>by simp at hk;omega)⟩
   rw [hlog];exact e1
def keepO (r:Rc) (o:Opn):Bool:=!(r.kind==6&&o.deed==r.deed)
theorem keep_all {r:Rc} (h:¬r.kind=6) (l:List Opn):l.filter (keepO r)=l:=by
 rw [List.filter_eq_self]
 intro o _
 simp [keepO,h]
theorem keep_six {r:Rc} (h:r.kind=6) (l:List Opn):l.filter (keepO r)=l.filter fun o=>!(o.deed==r.deed):=by
 refine List.filter_congr fun o _=>?_
 simp [keepO,h]
theorem filter_take_next (q:Opn→Bool) {l:List Opn} {j:Nat} (h:j<l.length):(l.take (j+1)).filter q=if q l[j]=true then(l.take j).filter q++ [l[j]] else(l.take j).filter q:=by
 rw [List.take_succ_eq_append_getElem h,List.filter_append]
 by_cases hq:q l[j]=true<;>simp [hq]
structure RBox (c:CM) (w wr:World) (vl vo:Value) (h:Hd):Prop where
 res:wr.heap[w.heap.size]? =some (.cells zhead 57 (0,0))
 row:wr.heap[w.heap.size+1]? =some (.cells #[vl,.int .i64 h.boot,.int .i64 h.next,vo] 57 (0,0))
 opn:OwnC Ty.opn c wr (w.heap.size+2) 136 vo h.opn
 grow:Grow w wr
 size:w.heap.size+2≤wr.heap.size
theorem RBox.later {c:CM} {w wr w':World} {vl vo:Value} {h:Hd} (b:RBox c w wr vl vo h) (hg:Grow wr w'):RBox c w w' vl vo h:=
 ⟨row_grow b.res hg,row_grow b.row hg,b.opn.grow hg,b.grow.trans hg,Nat.le_trans b.size hg.size⟩
theorem RBox.opns {c:CM} {w wr w':World} {vl vo vo':Value} {h:Hd} {os:List Opn} {row:Option Nat} (b:RBox c w wr vl vo h) (hg:wr.grownBy w' row) (hr:∀k,row=some k→w.heap.size+2≤k) (ho:OwnC Ty.opn c w' (w.heap.size+2) 136 vo' os):
  RBox c w (w'.setCell ⟨w.heap.size+1,3,none⟩ vo') vl vo' { h with opn:=os }:=by
 have hs:=b.size
 have hB:∀k,k≠w.heap.size+1→(w'.setCell ⟨w.heap.size+1,3,none⟩ vo').heap[k]? =w'.heap[k]?:=fun k hk=>Below.heap_setCell _ _ _ _ (fun e=>hk e)
 refine⟨?_,row_set4_3 (row_by b.row hg (fun e=>by have:=hr _ e.symm;omega)) _,ho.block fun k hk=>hB k (by have:=(ho.lt k hk).1;omega),(b.grow.grown hg (fun k hk=>by have:=hr k hk;omega)).setCell (by simp) _,?_⟩
 ·rw [hB _ (by omega)];exact row_by b.res hg (fun e=>by have:=hr _ e.symm;omega)
 ·have:=hg.size;simp;omega
theorem RBox.boot {c:CM} {w wr:World} {vl vo:Value} {h:Hd} (b:RBox c w wr vl vo h) (x:Int):RBox c w (wr.setCell ⟨w.heap.size+1,1,none⟩ (.int .i64 x)) vl vo { h with boot:=x }:=by
 have hs:=b.size
 have hB:∀k,k≠w.heap.size+1→(wr.setCell ⟨w.heap.size+1,1,none⟩ (.int .i64 x)).heap[k]? =wr.heap[k]?:=fun k hk=>Below.heap_setCell _ _ _ _ (fun e=>hk e)
 exact⟨by rw [hB _ (by omega)];exact b.res,row_set4_1 b.row _,b.opn.block fun k hk=>hB k (by have:=(b.opn.lt k hk).1;omega),b.grow.setCell (by simp) _,by simpa using b.size⟩
set_option maxRecDepth 100000 in
set_option maxHeartbeats 4000000 in
theorem ref_head {c:CM} {v:Value} {l:List Rc} (w:World) (hc:Sub c w.cell?) (hv:Rcs c v l) (hm:l.length*64≤140737488351232):
  Calls Try.prog 43 #[v] w fun e w'=>∃v',e=.returned v'∧Of Ty.hd (ov c w w') v' (headR l)∧Grow w w':=by
 have HC:=η hc
 have HV:=η hv
 obtain⟨al,cl,rfl,h1,h2,-,hel⟩:=hv
 have hlm:l.length≤2199023255489:=by omega
 clear hm
 go_enter Try.func43,Try.ntmps43
 go_wp2
 go_loopw [13] (fun i wr=>∃(k:Nat) (h:Hd) (vo:Value),k≤l.length∧i=.int .i64 k∧(l.take k).foldl headStep ⟨l,0,0,[]⟩=h∧RBox c w wr (.slice al l.length cl) vo h∧KOk h k) (fun i _=>l.length - (intOf i).toNat)
 case atStart=>
  exact⟨0,⟨l,0,0,[]⟩,.slice none 0 0,by omega,rfl,rfl,⟨heap_later (row_new _ _) _,by simpa using row_new (w.alloc (.cells zhead 57)) (.cells #[.slice al l.length cl,.int .i64 0,.int .i64 0,.slice none 0 0] 57),OwnC.nil _ _ _ _ _,((Grow.refl w).alloc _).alloc _,by simp⟩,⟨by simp,zero_ok,zero_ok⟩⟩
 case round=>
  obtain⟨wo,rfl⟩:∃x:World,x=wr:=⟨_,rfl⟩
  obtain⟨k,h,vo,hk',rfl,hfold,hbox,hok⟩:=hrel
  obtain⟨ar,cr,rfl⟩:=hbox.opn.form
  have HFD:=η hfold
  have HBX:=η hbox
  have HOK0:=η hok
  have z3:=hbox.size
  have z4:w.heap.size+1<wo.heap.size:=by omega
  have z5:w.heap.size<wo.heap.size:=by omega
  obtain⟨s0,s1,s2,s3⟩:=cells4 hbox.row
  have sf:=row_free hbox.row
  by_cases hlt:k<l.length
  ·obtain⟨b,o,vp,rfl,c0,c1,c2,i0,i1,hP⟩:=Rcs.at_ hel k hlt
   obtain⟨ap,cp,rfl,-⟩:=id hP
   replace c0:=hbox.grow.sub _ _ (hc _ _ c0)
   replace c1:=hbox.grow.sub _ _ (hc _ _ c1)
   replace c2:=hbox.grow.sub _ _ (hc _ _ c2)
   have htk:(l.take (k+1)).foldl headStep ⟨l,0,0,[]⟩=headStep h l[k]:=by rw [List.take_succ_eq_append_getElem hlt,List.foldl_append,HFD.o];rfl
   have HTK:=η htk
   have HOK1:=η (kok_step hok l[k])
   have HI:=η (And.intro i1 hP)
   have hrl:h.opn.length≤2199023255489:=by have:=hok.opn;omega
   clear hfold hok htk hP i0 i1 hbox hel
   generalize l[k]=r at*
   go_wp2
   go_loopw [6,20] (fun s6 i wx=>∃m:Nat,m≤h.opn.length∧i=.int .i64 m∧Grow (wo.alloc (.cells #[.int .i64 r.kind,.int .i64 r.deed,.slice ap r.parts.length cp] 48)) wx∧OwnC Ty.opn c wx (wo.heap.size+1) 136 s6 ((h.opn.take m).filter (keepO r))) (fun _ i _=>h.opn.length - (intOf i).toNat)
   case atStart=>exact⟨0,by omega,rfl,Grow.refl _,OwnC.nil _ _ _ _ _⟩
   case round=>
    obtain⟨wx,rfl⟩:∃x:World,x=wr:=⟨_,rfl⟩
    obtain⟨m,hm',rfl,hbx,hown⟩:=hrel
    have HG:=η (((Grow.refl wo).alloc (.cells #[.int .i64 r.kind,.int .i64 r.deed,.slice ap r.parts.length cp] 48)).trans hbx)
    obtain⟨q0,q1,q2⟩:=cells3 (row_grow (row_new wo (.cells #[.int .i64 r.kind,.int .i64 r.deed,.slice ap r.parts.length cp] 48)) hbx)
    have q9:wo.heap.size<wx.heap.size:=by have:=hbx.size;simp at this;omega
    have HOWN:=η hown
    obtain⟨av,cv,rfl⟩:=hown.form
    have hfl:((h.opn.take m).filter (keepO r)).length≤h.opn.length:=Nat.le_trans (List.length_filter_le _ _) (by simp;omega)
    have HFL:=η hfl
    clear hown c0 c1 c2 s0 s1 s2 s3 sf hfl
    by_cases hlm:m<h.opn.length
    ·obtain⟨gx,csx,rfl,⟨vx,vh,rfl,j0,j1,j2⟩,hAx⟩:=HBX.o.opn.get (by decide) m hlm
     obtain⟨ax,cx,rfl,-⟩:=id j1
     obtain⟨ah,ch,rfl,-⟩:=id j2
     have x0:=HG.o.sub _ _ (hAx 0 _ rfl)
     have x1:=HG.o.sub _ _ (hAx 1 _ rfl)
     have x2:=HG.o.sub _ _ (hAx 2 _ rfl)
     have x3:=HG.o.sub _ _ (hAx 3 _ rfl)
     simp only [Ty.opn,Nat.add_zero] at x0 x1 x2 x3
     have HNX:=η (filter_take_next (keepO r) hlm)
     have HJ:=η (And.intro j0 (And.intro j1 j2))
     clear hAx j0 j1 j2
     generalize h.opn[m]=q at*
     generalize (h.opn.take m).filter (keepO r)=fs at*
     by_cases hq:keepO r q=true
     ·have HQ:=η hq
      have hcase:(r.kind !=6)=true∨((r.kind !=6)=false∧(q.deed !=r.deed)=true):=by
       by_cases h6:r.kind=6
       ·right
        simp [keepO,h6] at hq
        exact⟨by simp [h6],by simpa using hq⟩
       ·left;simp [h6]
      clear hq
      rcases hcase with b6|⟨b6,bd⟩
      all_goals
       go_wp2_with (first|(at_builtin;refine wpList_appc (c:=c) (base:=wo.heap.size+1) (l:=fs) (m:=[q]) ei_opn rfl one_Topn (by decide) rfl (.tmp 34) (.tmp 36) rfl rfl ?own rfl (Src.of_new (T:=Ty.opn) (cs:=#[.int .i64 q.deed,.slice ax q.parts.length cx,.bool q.dec,.slice ah q.heard.length ch]) ⟨_,_,rfl,HJ.o.1,HJ.o.2.1,HJ.o.2.2⟩ _ _ ?d1) ?d2 ?d3 ?_))
       case own=>exact HOWN.o.grow (((Grow.refl _).alloc _).alloc _)
       case d1=>simp
       case d2=>have:=HFL.o;simp;omega
       case d3=>have:=HG.o.size;simp;omega
       intro a9 c9 w9 ho9 hg9 hb9
       have HG9:=η (grow_by (w0:=wo.alloc (.cells #[.int .i64 r.kind,.int .i64 r.deed,.slice ap r.parts.length cp] 48)) ((hbx.alloc _).alloc _) hg9 (fun q hq=>by have:=(HOWN.o.lt q hq).1;simpa using this))
       have HO9:=η ho9
       clear ho9 hg9 hb9
       go_wp2
       go_roundw
       case rel=>exact⟨m+1,by omega,by go_num,HG9.o,by rw [HNX.o,if_pos HQ.o];exact HO9.o⟩
       case measure=>simp [intOf];omega
     ·have HQ:=η hq
      have h6:r.kind=6∧q.deed=r.deed:=by
       simp [keepO] at hq
       exact hq
      have b6:(r.kind !=6)=false:=by simp [h6.1]
      have bd:(q.deed !=r.deed)=false:=by simp [h6.2]
      clear hq h6
      go_wp2
      go_roundw
      case rel=>exact⟨m+1,by omega,by go_num,hbx.alloc _,by rw [HNX.o,if_neg HQ.o];exact HOWN.o.grow ((Grow.refl _).alloc _)⟩
      case measure=>simp [intOf];omega
    ·have hfin:(h.opn.take m).filter (keepO r)=h.opn.filter (keepO r):=by rw [List.take_of_length_le (by omega)]
     have HOW2:Hid (OwnC Ty.opn c wx (wo.heap.size+1) 136 (.slice av (h.opn.filter (keepO r)).length cv) (h.opn.filter (keepO r))):=by
      have:=HOWN.o
      rw [hfin] at this
      exact η this
     rw [hfin]
     have hf2:(h.opn.filter (keepO r)).length≤2199023255489:=Nat.le_trans (List.length_filter_le _ _) hrl
     clear hfin
     have b2:=HBX.o.later HG.o
     obtain⟨s0,s1,s2,s3⟩:=cells4 b2.row
     have sf:=row_free b2.row
     have zz:w.heap.size+1<wx.heap.size:=by have:=b2.size;omega
     have HR:=η (RBox.opns (row:=none) b2 (grownBy_of_grow (Grow.refl wx) none) (by simp) (HOW2.o.base (by omega)))
     have HGR:=η (b2.grow)
     clear b2
     generalize hfs:h.opn.filter (keepO r)=fs at*
     have HFS:=η hfs
     clear hfs
     have q9':w.heap.size+1≠wo.heap.size:=by omega
     by_cases k4:r.kind=4
     ·have b4:(r.kind==4)=true:=by simp [k4]
      have b5:(r.kind==5)=false:=by simp [k4]
      have hst:headStep h r={ h with opn:=fs,boot:=wrap64 (h.boot+1) }:=by unfold headStep;rw [if_pos k4,←HFS.o,keep_all (by omega)]
      have HFO:=η (HTK.o.trans hst)
      have HOK:=η (hst▸HOK1.o)
      clear hst k4
      go_wp2
      go_roundw
      case rel=>exact⟨k+1,_,_,by omega,by go_num,HFO.o,HR.o.boot _,HOK.o⟩
      case measure=>simp [intOf];omega
     ·have b4:(r.kind==4)=false:=by simp [k4]
      by_cases k5:r.kind=5
      ·have b5:(r.kind==5)=true:=by simp [k5]
       have hst:headStep h r={ h with opn:=fs++ [⟨r.deed,r.parts,true,[]⟩] }:=by unfold headStep;rw [if_neg k4,if_pos k5,←HFS.o,keep_all (by omega)]
       have HFO:=η (HTK.o.trans hst)
       have HOK:=η (hst▸HOK1.o)
       clear hst k4 k5
       go_wp2_with (first|(at_builtin;refine wpList_appc (c:=c) (base:=w.heap.size+2) (l:=fs) (m:=[⟨r.deed,r.parts,true,[]⟩]) ei_opn rfl one_Topn (by decide) rfl (.tmp 52) (.tmp 58) rfl rfl ?own rfl (Src.of_new (T:=Ty.opn) (cs:=#[.int .i64 r.deed,.slice ap r.parts.length cp,.bool true,.slice none 0 0]) ⟨_,_,rfl,HI.o.1,HI.o.2,Sl.nil _ _⟩ _ _ ?d1) ?d2 ?d3 ?_))
       case own=>exact HR.o.opn.grow ((Grow.refl _).alloc _)
       case d1=>simp
       case d2=>simp;omega
       case d3=>have:=HR.o.size;simp at this ⊢;omega
       intro a9 c9 w9 ho9 hg9 hb9
       have hr9:∀q,(Value.slice av fs.length cv).ownBlock=some q→w.heap.size+2≤q:=fun q hq=>(HR.o.opn.lt q hq).1
       have t9:=row_by (row_grow HR.o.row ((Grow.refl _).alloc (.cells #[.int .i64 r.deed,.slice ap r.parts.length cp,.bool true,.slice none 0 0] 136))) hg9 (fun e=>by have:=hr9 _ e.symm;omega)
       have HX:=η (RBox.opns HR.o (grownBy_trans (grownBy_of_grow ((Grow.refl _).alloc _) _) hg9) hr9 ho9)
       clear s0 s1 s2 s3 sf hg9 ho9 hb9 hr9
       obtain⟨s0,s1,s2,s3⟩:=cells4 t9
       have sf:=row_free t9
       have s9:w.heap.size+1<w9.heap.size:=(γ t9)
       clear t9
       go_wp2
       go_roundw
       case rel=>exact⟨k+1,_,_,by omega,by go_num,HFO.o,HX.o,HOK.o⟩
       case measure=>simp [intOf];omega
      ·have b5:(r.kind==5)=false:=by simp [k5]
       have hst:headStep h r={ h with opn:=fs }:=by
        unfold headStep
        rw [if_neg k4,if_neg k5,←HFS.o]
        by_cases k6:r.kind=6
        ·rw [if_pos k6,keep_six k6]
        ·rw [if_neg k6,keep_all k6]
       have HFO:=η (HTK.o.trans hst)
       have HOK:=η (hst▸HOK1.o)
       clear hst k4 k5
       go_wp2
       go_roundw
       case rel=>exact⟨k+1,_,_,by omega,by go_num,HFO.o,HR.o,HOK.o⟩
       case measure=>simp [intOf];omega
  ·have HH:Hid (h=headR l):=by show h=_;rw [←HFD.o,List.take_of_length_le (by omega)];rfl
   clear hfold hok hbox hel
   go_wp2_with (first|(refine wpList_store_row rfl (.tmp 2) (.tmp 62) rfl rfl rfl HBX.o.res info_hd rfl rfl ?_))
   intro wf r2 g2
   obtain⟨p0,p1,p2,p3⟩:=cells4 r2
   have pf:=row_free r2
   clear s0 s1 s2 s3 sf
   go_wp2
   refine bodyPost_ret (v:=.agg #[.slice al l.length cl,.int .i64 h.boot,.int .i64 h.next,.slice ar h.opn.length cr]) (by simp [results,Try.results43,go_sem,p0,p1,p2,p3]) rfl ?_
   have hlog:h.log=l:=by rw [HH.o];exact(headR_next l).2
   have e2:=((HBX.o.opn.mono (ov_in HC.o)).block fun k hk=>g2.block k (HBX.o.opn.lt k hk).2 (by have:=(HBX.o.opn.lt k hk).1;simp;omega)).slc (by decide) (Sub.refl _) fun a ha=>ov_new (by omega)
   rw [←HH.o]
   refine⟨_,rfl,⟨_,rfl,_,_,rfl,?_,HOK0.o.boot,HOK0.o.next,e2⟩,HBX.o.grow.grown g2 (fun k hk=>by simp at hk;omega)⟩
   rw [hlog];exact HV.o.mono (ov_in HC.o)
theorem src_new {α:Type} {T:Ty α} (h0:0<T.size) {w W w4:World} {e:Nat} {v:Value} {l:List α} {row:Option Nat} (hg:Grow w W) (hr:∀k,row=some k→k<W.heap.size) (h:OwnC T (fr W w4 [v.ownBlock]) w4 W.heap.size e v l):Src T (fr w w4 [row]) w4 v l:=by
 have hs:=hg.size
 have hk:∀k,W.heap.size≤k→some k∉ [row]:=fun k hk=>by
  simp only [List.mem_singleton]
  intro e
  have:=hr _ e.symm
  omega
 refine Src.of_sl_c h0 (fr_sub _ _ _) (h.slc h0 (fun a v e=>?_) fun a ha=>fr_new (by omega) (hk _ ha))
 unfold fr at e
 split at e
 ·cases e
 ·rename_i hn
  have h1:¬a.block<W.heap.size:=fun hx=>hn (.inl hx)
  rw [fr_new (by omega) (hk _ (by omega))]
  exact e
theorem cell_past {w w':World} {B:Nat} {a:Addr} {v:Value} (h:w.cell? a=some v) (hg:w.grownBy w' (some B)) (hne:a.block≠B):w'.cell? a=some v:=by
 rw [by_cell hg (World.block_lt_of_cell? w a h) hne];exact h
theorem wo_ne {B:Nat} {c:CM} {a:Addr} {v:Value} (h:wo B c a=some v):a.block≠B:=fun e=>by
 unfold wo at h
 rw [if_pos e] at h
 cases h
theorem ov_store {c:CM} {w W w1 w':World} {B:Nat} (hW:Grow w W) (h1:Grow W w1) (hB:B<W.heap.size) (hg:w1.grownBy w' (some B)):Sub (ov (wo B (ov c w W)) W w1) (ov c w w'):=fun a v e=>by
 have hs:=hW.size
 unfold ov at e
 split at e
 ·have ne:=wo_ne e
  have e2:=wo_sub _ _ a v e
  by_cases hl:a.block<w.heap.size
  ·rw [if_pos hl] at e2
   unfold ov
   rw [if_pos hl];exact e2
  ·rw [if_neg hl] at e2
   rw [ov_new (by omega)]
   exact cell_past (h1.sub _ _ e2) hg ne
 ·rw [ov_new (by omega)]
  exact cell_past e hg (by omega)
theorem Opns.agg {c:CM} {q:Opn} {vp vh:Value} (h1:I64 q.deed) (h2:Sl Ty.pt c vp q.parts) (h3:Sl Ty.int c vh q.heard):Of Ty.opn c (.agg #[.int .i64 q.deed,vp,.bool q.dec,vh]) q:=⟨_,rfl,_,_,rfl,h1,h2,h3⟩
structure HdOk (h:Hd):Prop where
 opn:h.opn.length≤12
 parts:∀o∈h.opn,o.parts.length≤4
 heard:∀o∈h.opn,o.heard.length≤3
 log:h.log.length≤100000
 boot:0≤h.boot∧h.boot≤20
 next:0≤h.next∧h.next≤64
set_option maxRecDepth 100000 in
set_option maxHeartbeats 2000000 in
theorem ref_headTick {v:Value} {h:Hd} (w:World) (hv:Of Ty.hd w.cell? v h) (hk:HdOk h):
  Calls Try.prog 109 #[v] w fun e w'=>∃v',e=.returned v'∧OwnC Ty.ms (fr w w' [v'.ownBlock]) w' w.heap.size 39 v' (tickE h)∧Grow w w':=by
 obtain⟨al,cl,ar,cr,rfl⟩:=hv.hd_form
 obtain⟨ar',cr',he,h1,h2,-,hel⟩:=(Of.hd_log hv).2
 obtain⟨rfl,rfl⟩:ar=ar'∧cr=cr':=by simpa using he
 unfold maxLen at h2
 have HOP:=η hk.parts
 have h12:=hk.opn
 clear hk he hv
 go_enter Try.func109,Try.ntmps109
 go_wp2
 go_loopw [3,9] (fun s3 i wr=>∃k:Nat,k≤h.opn.length∧i=.int .i64 k∧Grow w wr∧OwnC Ty.ms (fr w wr [s3.ownBlock]) wr w.heap.size 39 s3 ((h.opn.take k).flatMap asksE)) (fun _ i _=>h.opn.length - (intOf i).toNat)
 case atStart=>exact⟨0,by omega,rfl,grA,OwnC.nil _ _ _ _ _⟩
 case round=>
  obtain⟨k,hk',rfl,hb,hown⟩:=hrel
  by_cases hlt:k<h.opn.length
  ·obtain⟨b,o,vp,vh,rfl,c0,c1,c2,c3,i0,hP,hH⟩:=Opns.at_ hel k hlt
   obtain⟨ap,cp,rfl,-⟩:=id hP
   obtain⟨ah,ch,rfl,-⟩:=id hH
   have HAS:=η (fun(W:World) (hW:Grow wr W)=>ref_asks (o:=h.opn[k]) W (Opns.agg i0 (hP.mono (hb.trans hW).sub) (hH.mono (hb.trans hW).sub)) (by have:=HOP.o _ (List.getElem_mem hlt);omega))
   replace c0:=hb.sub _ _ c0
   replace c1:=hb.sub _ _ c1
   replace c2:=hb.sub _ _ c2
   replace c3:=hb.sub _ _ c3
   have HTK:=η (flat_next asksE hlt)
   have HLK:=η (show((h.opn.take k).flatMap asksE).length≤36 by have:=flat_short asks_short (h.opn.take k);rw [List.length_take] at this;omega)
   have HAL:=η (asks_short h.opn[k])
   have HOWN:=η hown
   have HB:=η hb
   obtain⟨av,cv,rfl⟩:=hown.form
   clear hel hP hH hown hb i0
   generalize h.opn[k]=q at*
   generalize (h.opn.take k).flatMap asksE=ms at*
   go_wp2_with fail
   refine(HAS.o _ ((Grow.refl wr).alloc _)).mono ?_
   rintro e w4 ⟨v4,rfl,ho4,hb4⟩
   obtain⟨a4,c4,rfl⟩:=ho4.form
   have G4:=η (((Grow.refl wr).alloc _).trans hb4)
   have HSR:=η (src_new (w:=w) (row:=(Value.slice av ms.length cv).ownBlock) (by decide) (HB.o.alloc _) (fun q hq=>by have:=(HOWN.o.lt q hq).2;simp;omega) ho4)
   have HO4:=η ((HOWN.o.mono (fr_grow G4.o)).grow G4.o)
   clear ho4 hb4
   generalize asksE q=aq at*
   go_wp2_with (first|(at_builtin;refine wpList_appc (c:=fr w w4 [(Value.slice av ms.length cv).ownBlock]) (base:=w.heap.size) (l:=ms) (m:=aq) ei_ms rfl one_Tms (by decide) rfl (.tmp 13) (.tmp 15) rfl rfl HO4.o rfl HSR.o ?d2 ?d3 ?_))
   case d2=>have:=HLK.o;have:=HAL.o;omega
   case d3=>have:=HB.o.size;have:=G4.o.size;omega
   intro a9 c9 w9 ho9 hg9 hb9
   have HG9:Hid (Grow w w9):=η (grow_by (w0:=w) (HB.o.trans G4.o) hg9 (fun q hq=>(HOWN.o.lt q hq).1))
   have HO9:=η (ho9.mono (fr_app hg9 (hb9.imp_right fun⟨g,e,hge⟩=>⟨g,e,by simpa using hge⟩)))
   clear ho9 hg9 hb9
   go_wp2
   go_roundw
   case rel=>exact⟨k+1,by omega,by go_num,HG9.o,by rw [HTK.o];exact HO9.o⟩
   case measure=>simp [intOf];omega
  ·have HOWN:=η hown
   have HB:=η hb
   clear hel hown hb
   go_wp2
   go_ret
   have h9:=HOWN.o
   rw [List.take_of_length_le (by omega)] at h9
   exact⟨_,rfl,h9,HB.o⟩
set_option maxRecDepth 100000 in
set_option maxHeartbeats 2000000 in
theorem ref_fall {c:CM} {v:Value} {h:Hd} (w:World) (hc:Sub c w.cell?) (hv:Of Ty.hd c v h) (hk:HdOk h):
  Calls Try.prog 103 #[v] w fun e w'=>∃v',e=.returned (.tuple #[v',.int .i64 (fallE h)])∧Of Ty.hd (ov c w w') v' (fallH h)∧Grow w w':=by
 obtain⟨al,cl,ar,cr,rfl⟩:=hv.hd_form
 have HV:=η hv
 have HC:=η hc
 have HLG:=η (Of.hd_log hv).1
 have hll:=hk.log
 clear hk hv hc
 obtain⟨wa,hwa⟩:∃y:World,y=w.alloc (.cells #[.slice al h.log.length cl,.int .i64 h.boot,.int .i64 h.next,.slice ar h.opn.length cr] 57):=⟨_,rfl⟩
 obtain⟨wz,hwz⟩:∃y:World,y=wa.alloc (.cells #[.slice none 0 0,.int .i64 0,.int .i64 0,.slice none 0 0] 57):=⟨_,rfl⟩
 have hsz:wa.heap.size=w.heap.size+1:=by rw [hwa];simp
 have R1:Hid (wz.heap[w.heap.size]? =some (.cells #[.slice al h.log.length cl,.int .i64 h.boot,.int .i64 h.next,.slice ar h.opn.length cr] 57 (0,0))):=η (by rw [hwz,hwa];exact heap_later (row_new _ _) _)
 have R2:Hid (wz.heap[w.heap.size+1]? =some (.cells #[.slice none 0 0,.int .i64 0,.int .i64 0,.slice none 0 0] 57 (0,0))):=η (by rw [hwz,←hsz];exact row_new _ _)
 have G1:Hid (Grow w wz):=η (by rw [hwz,hwa];exact((Grow.refl w).alloc _).alloc _)
 have HZ:Hid (wz.heap.size=w.heap.size+2):=η (by rw [hwz,hwa];simp)
 by_cases hb:19<h.boot
 ·have HE1:Hid (fallH h=h):=η (by unfold fallH;rw [if_pos hb])
  have HE2:Hid (fallE h=5):=η (by unfold fallE;rw [if_pos hb])
  go_enter Try.func103,Try.ntmps103
  go_upto_region 1 with fail
  rw [←hwa]
  try rw [hsz]
  rw [←hwz]
  clear hwa hwz hsz
  obtain⟨c0,c1,c2,c3⟩:=cells4 R1.o
  have z1:w.heap.size<wz.heap.size:=(γ R1.o)
  have z2:w.heap.size+1<wz.heap.size:=(γ R2.o)
  go_wp2_with (first|(refine wpList_store_row rfl (.tmp 2) (.tmp 7) rfl rfl rfl R2.o info_hd rfl rfl ?_))
  intro w7 r7 g7
  obtain⟨p0,p1,p2,p3⟩:=cells4 r7
  clear c0 c1 c2 c3
  go_wp2
  refine bodyPost_ret (v:=.tuple #[.agg #[.slice al h.log.length cl,.int .i64 h.boot,.int .i64 h.next,.slice ar h.opn.length cr],.int .i64 5]) (by simp [results,Try.results103,go_sem,p0,p1,p2,p3]) rfl ?_
  have G7:=G1.o.grown g7 (fun q hq=>by simp at hq;omega)
  rw [HE1.o,HE2.o]
  exact⟨_,rfl,HV.o.mono (ov_in HC.o),G7⟩
 ·have HE1:Hid (fallH h=headR (h.log++ [⟨4,0,[]⟩])):=η (by unfold fallH;rw [if_neg hb])
  have HE2:Hid (fallE h=0):=η (by unfold fallE;rw [if_neg hb])
  have HLL:Hid ((h.log++ [(⟨4,0,[]⟩:Rc)]).length=h.log.length+1):=η (by simp)
  go_enter Try.func103,Try.ntmps103
  go_upto_region 1 with fail
  rw [←hwa]
  try rw [hsz]
  rw [←hwz]
  clear hwa hwz hsz
  obtain⟨c0,c1,c2,c3⟩:=cells4 R1.o
  have z1:w.heap.size<wz.heap.size:=(γ R1.o)
  have z2:w.heap.size+1<wz.heap.size:=(γ R2.o)
  go_wp2_with (first|(at_builtin;refine wpList_appc (c:=c) (base:=w.heap.size+2) (l:=[]) (m:=h.log) (v:=.slice (some ⟨wz.heap.size,0,none⟩) 0 0) ei_rc rfl one_Trc (by decide) rfl (.tmp 8) (.tmp 10) rfl rfl (OwnC.made0 Ty.rc _ _ _ _ ?c1 ?c1') rfl ?src ?c3 ?c4 ?_))
  case c1=>rw [HZ.o];exact Nat.le_refl _
  case c1'=>rfl
  case src=>exact Src.of_sl_c (by decide) (HC.o.trans (G1.o.alloc _).sub) HLG.o
  case c3=>(try simp);omega
  case c4=>have:=HZ.o;(try simp);omega
  intro a8 c8 w8 ho8 hg8 hb8
  try simp only [List.length_nil,Nat.zero_add,List.nil_append] at ho8
  try simp only [List.length_nil,Nat.zero_add]
  have HO8:=η ho8
  have G8:=η (grow_by (w0:=wz) ((Grow.refl wz).alloc _) hg8 (own_at (Nat.le_refl _)))
  clear ho8 hg8 hb8 c0 c1 c2 c3
  go_wp2_with (first|(at_builtin;refine wpList_appc (c:=c) (base:=w.heap.size+2) (l:=h.log) (m:=[⟨4,0,[]⟩]) ei_rc rfl one_Trc (by decide) rfl (.tmp 11) (.tmp 13) rfl rfl (HO8.o.grow ((Grow.refl _).alloc _)) rfl (Src.of_new (T:=Ty.rc) (x:=⟨4,0,[]⟩) (cs:=#[.int .i64 4,.int .i64 0,.slice none 0 0]) ⟨_,rfl,(show I64 4 from by unfold I64;decide),zero_ok,Sl.nil _ _⟩ _ _ ?d1) ?d2 ?d3 ?_))
  case d1=>first|rfl|simp
  case d2=>(try simp);omega
  case d3=>have:=G8.o.size;have:=HZ.o;(try simp);omega
  intro a9 c9 w9 ho9 hg9 hb9
  have G9:=η (grow_by (w0:=wz) (G8.o.alloc _) hg9 (fun q hq=>by have:=(HO8.o.lt q hq).1;have:=HZ.o;omega))
  have GW9:=η (G1.o.trans G9.o)
  have HX9:=η (ho9.slc (d:=wo (w.heap.size+1) (ov c w w9)) (by decide) (wo_ov_in HC.o (by omega)) fun a ha=>wo_ov_new (by omega) (by omega))
  have R29:=η (row_grow R2.o G9.o)
  clear ho9 hg9 hb9
  generalize h.log++ [(⟨4,0,[]⟩:Rc)]=lg at*
  go_wp2_with fail
  refine(ref_head (l:=lg) (c:=wo (w.heap.size+1) (ov c w w9)) w9 (wo_ov_sub HC.o GW9.o) ?hl (by rw [HLL.o];omega)).mono ?_
  case hl=>first|exact HX9.o|(have h9:=HX9.o;rw [HLL.o] at h9;simpa using h9)
  rintro e w10 ⟨v10,rfl,hx,hb10⟩
  obtain⟨al2,cl2,ar2,cr2,rfl⟩:=hx.hd_form
  have R210:=η (row_grow R29.o hb10)
  have HX:=η hx
  have GB10:=η hb10
  have z29:=(γ R29.o)
  have G10:=η (GW9.o.trans hb10)
  clear hx hb10
  go_wp2_with (first|(refine wpList_store_row rfl (.tmp 2) (.tmp 15) rfl rfl rfl R210.o info_hd rfl rfl ?_))
  intro w7 r7 g7
  obtain⟨p0,p1,p2,p3⟩:=cells4 r7
  go_wp2
  refine bodyPost_ret (v:=.tuple #[.agg #[.slice al2 (headR lg).log.length cl2,.int .i64 (headR lg).boot,.int .i64 (headR lg).next,.slice ar2 (headR lg).opn.length cr2],.int .i64 0]) (by simp [results,Try.results103,go_sem,p0,p1,p2,p3]) rfl ?_
  rw [HE1.o,HE2.o]
  refine⟨_,rfl,?_,G10.o.grown g7 (fun q hq=>by simp at hq;omega)⟩
  exact HX.o.mono (ov_store GW9.o GB10.o z29 g7)
theorem wpList_store_cell {P:Program} {ty:TypeId} {ops:Array Oper} {rest:List Oper} {w:World} {o:Oper} {a:Act} {Q:Exit→Act→World→Prop} (hgd:o.guard=none) (d s:Operand) (ho:o.op=.store ty d s)
  {g p:Nat} {t:TypeId} {old new:Array Value} {v:Value} (hd:a.eval d=.pointer (some ⟨g,p,none⟩)) (hs:a.eval s=v) (hv:v.cells=[v].toArray) (hrow:w.heap[g]? =some (.cells old t (0,0)))
  (hi:(P.info? ty).map (·.size)=some 1) (hos:p+1≤old.size) (h1:v.oneCell'=true) (hnew:(old.toList.take p++ [v]++old.toList.drop (p+1)).toArray=new)
  (h:∀w',w'.heap[g]? =some (.cells new t (0,0))→w.grownBy w' (some g)→wpList P ops Q rest (a.put o.dst undef) w'):wpList P ops Q (o::rest) a w:=
 wpList_plain hgd fun _ hK=>wp_store_cell d s ho hd hs hv hrow hi hos h1 hnew fun w' a b=>hK _ _ (h w' a b)
theorem info_opns:(Try.prog.info? 55).map (·.size)=some 1:=by kernel_rfl
theorem info_int1:(Try.prog.info? 3).map (·.size)=some 1:=by kernel_rfl
theorem OwnC.srcA {α:Type} {T:Ty α} {c:CM} {w:World} {base e:Nat} {v:Value} {l:List α} (h:OwnC T c w base e v l):Src T c w v l:=by
 obtain⟨css,h1,h2,h3⟩:=h
 obtain⟨a,cap,rfl⟩:=owns_form h1
 have h4:=own_src h1
 exact⟨a,cap,css,rfl,h4.1,by obtain⟨-,⟨-,hn⟩|⟨g,cap',cur,he,-,-,hnc,hcm,-⟩⟩:=h1<;>omega,h2,h3,h4.2⟩
def Apart (u v:Value):Prop:=∀q,u.ownBlock=some q→v.ownBlock≠some q
theorem Apart.keep {α:Type} {T:Ty α} {c:CM} {w w':World} {base e:Nat} {u v:Value} {l:List α} (h:Apart u v) (hv:OwnC T c w base e v l) (hg:w.grownBy w' u.ownBlock):OwnC T c w' base e v l:=
 hv.kept hg (by
  cases e:v.ownBlock with
  |none=>exact .inl rfl
  |some q=>exact .inr (fun e2=>h q e2.symm e))
theorem Apart.symm {u v:Value} (h:Apart u v):Apart v u:=fun q e e2=>h q e2 e
theorem Apart.step {α:Type} {T:Ty α} {c:CM} {w:World} {base e:Nat} {u u' v:Value} {l:List α} (h:Apart u v) (hv:OwnC T c w base e v l) (hb:u'.ownBlock=u.ownBlock∨∃g,u'.ownBlock=some g∧w.heap.size≤g):Apart u' v:=fun q e e2=>by
 rcases hb with hb|⟨g,hb,hge⟩
 ·exact h q (hb.symm.trans e) e2
 ·rw [hb] at e
  obtain rfl:=Option.some.inj e
  have:=(hv.lt g e2).2
  omega
set_option maxRecDepth 100000 in
set_option maxHeartbeats 4000000 in
theorem ref_quit {c:CM} {v:Value} {h:Hd} (w:World) (hc:Sub c w.cell?) (hv:Of Ty.hd c v h) (hk:HdOk h):
  Calls Try.prog 107 #[v] w fun e w'=>∃v1 v2,e=.returned (.tuple #[v1,v2])∧Of Ty.hd (ov c w w') v1 (quitH h)∧Sl Ty.ms (ov c w w') v2 (quitM h)∧Grow w w':=by
 obtain⟨al,cl,ar,cr,rfl⟩:=hv.hd_form
 have HLG:=η (Of.hd_log hv).1
 have HIB:Hid (I64 h.boot∧I64 h.next):=η (by obtain⟨cs,he,_,_,rfl,_,h1,h2,_⟩:=hv;exact⟨h1,h2⟩)
 obtain⟨ar',cr',he,h1,h2,-,hel⟩:=(Of.hd_log hv).2
 obtain⟨rfl,rfl⟩:ar=ar'∧cr=cr':=by simpa using he
 unfold maxLen at h2
 have HOP:=η hk.parts
 have h12:=hk.opn
 have HC:=η hc
 clear hk he hv hc
 obtain⟨wa,hwa⟩:∃y:World,y=w.alloc (.cells #[.slice al h.log.length cl,.int .i64 h.boot,.int .i64 h.next,.slice ar h.opn.length cr] 57):=⟨_,rfl⟩
 obtain⟨wz,hwz⟩:∃y:World,y=wa.alloc (.cells #[.slice none 0 0,.int .i64 0,.int .i64 0,.slice none 0 0] 57):=⟨_,rfl⟩
 have hsz:wa.heap.size=w.heap.size+1:=by rw [hwa];simp
 have R1:Hid (wz.heap[w.heap.size]? =some (.cells #[.slice al h.log.length cl,.int .i64 h.boot,.int .i64 h.next,.slice ar h.opn.length cr] 57 (0,0))):=η (by rw [hwz,hwa];exact heap_later (row_new _ _) _)
 have R2:Hid (wz.heap[w.heap.size+1]? =some (.cells #[.slice none 0 0,.int .i64 0,.int .i64 0,.slice none 0 0] 57 (0,0))):=η (by rw [hwz,←hsz];exact row_new _ _)
 have G1:Hid (Grow w wz):=η (by rw [hwz,hwa];exact((Grow.refl w).alloc _).alloc _)
 have HZ:Hid (wz.heap.size=w.heap.size+2):=η (by rw [hwz,hwa];simp)
 go_enter Try.func107,Try.ntmps107
 go_upto_region 3 with fail
 rw [←hwa]
 try rw [hsz]
 rw [←hwz]
 clear hwa hwz hsz
 obtain⟨c0,c1,c2,c3⟩:=cells4 R1.o
 have z1:w.heap.size<wz.heap.size:=(γ R1.o)
 go_wp2
 clear c0 c1 c2 c3
 go_loopw [4,5,11] (fun s4 s5 i wr=>∃k:Nat,k≤h.opn.length∧i=.int .i64 k∧Grow wz wr∧OwnC Ty.opn c wr (w.heap.size+2) 136 s4 ((h.opn.take k).filter fun o=>o.dec)∧OwnC Ty.ms (fun _=>none) wr (w.heap.size+2) 39 s5 (((h.opn.take k).filter fun o=>!o.dec).flatMap fun o=>abortsE o.deed o.parts)∧Apart s4 s5) (fun _ _ i _=>h.opn.length - (intOf i).toNat)
 case atStart=>exact⟨0,by omega,rfl,Grow.refl _,OwnC.nil _ _ _ _ _,OwnC.nil _ _ _ _ _,fun q e=>by simp [Value.ownBlock] at e⟩
 case round=>
  obtain⟨k,hk',rfl,hb,how4,how5,hap⟩:=hrel
  obtain⟨a4,c4,rfl⟩:=how4.form
  obtain⟨a5,c5,rfl⟩:=how5.form
  have HO4:=η how4
  have HO5:=η how5
  have HAP:=η hap
  have HB:=η hb
  have GB:=η (G1.o.trans hb)
  clear how4 how5 hap hb
  by_cases hlt:k<h.opn.length
  ·obtain⟨b,o,vp,vh,rfl,c0,c1,c2,c3,i0,hP,hH⟩:=Opns.at_ hel k hlt
   obtain⟨ap,cp,rfl,-⟩:=id hP
   obtain⟨ah,ch,rfl,-⟩:=id hH
   have HEL:=η (And.intro i0 (And.intro hP hH))
   have hpl:=HOP.o _ (List.getElem_mem hlt)
   have HFD:=η (filter_take_next (fun o:Opn=>o.dec) hlt)
   have HFM:=η (fflat_next (fun o:Opn=>!o.dec) (fun o=>abortsE o.deed o.parts) hlt)
   have HL4:=η (show((h.opn.take k).filter fun o=>o.dec).length≤12 from Nat.le_trans (List.length_filter_le _ _) (by simp;omega))
   have HL5:=η (show(((h.opn.take k).filter fun o=>!o.dec).flatMap fun o=>abortsE o.deed o.parts).length≤36 by
    have h8:=flat_short (fun o:Opn=>aborts_short o.deed o.parts) ((h.opn.take k).filter fun o=>!o.dec)
    have h9:((h.opn.take k).filter fun o=>!o.dec).length≤12:=Nat.le_trans (List.length_filter_le _ _) (by simp;omega)
    omega)
   replace c0:=GB.o.sub _ _ (HC.o _ _ c0)
   replace c1:=GB.o.sub _ _ (HC.o _ _ c1)
   replace c2:=GB.o.sub _ _ (HC.o _ _ c2)
   replace c3:=GB.o.sub _ _ (HC.o _ _ c3)
   clear hel hP hH i0
   generalize h.opn[k]=q at*
   generalize (h.opn.take k).filter (fun o=>o.dec)=rs at*
   generalize ((h.opn.take k).filter fun o=>!o.dec).flatMap (fun o=>abortsE o.deed o.parts)=ms at*
   cases hd:q.dec with
   |true=>
    rw [hd] at c2
    have HF1:=η HFD.o
    have HF2:=η HFM.o
    rw [if_pos hd] at HF1
    rw [if_neg (by simp [hd])] at HF2
    have HEQ:Hid (q=⟨q.deed,q.parts,true,q.heard⟩):=η (by cases q;simp_all)
    clear hd HFD HFM
    have q9:wr.heap.size<(wr.alloc (.cells #[.int .i64 q.deed,.slice ap q.parts.length cp,.bool true,.slice ah q.heard.length ch] 136)).heap.size:=by simp
    go_wp2_with (first|(at_builtin;refine wpList_appc (c:=c) (base:=w.heap.size+2) (l:=rs) (m:=[q]) ei_opn rfl one_Topn (by decide) rfl (.tmp 17) (.tmp 19) rfl rfl ?own rfl (Src.of_new (T:=Ty.opn) (x:=q) (cs:=#[.int .i64 q.deed,.slice ap q.parts.length cp,.bool true,.slice ah q.heard.length ch]) ?d0 _ _ ?d1) ?d2 ?d3 ?_))
    case own=>exact HO4.o.grow (((Grow.refl _).alloc _).alloc _)
    case d0=>rw [HEQ.o];exact⟨_,_,rfl,HEL.o.1,HEL.o.2.1,HEL.o.2.2⟩
    case d1=>simp
    case d2=>have:=HL4.o;simp;omega
    case d3=>have:=HB.o.size;have:=HZ.o;simp;omega
    intro a9 c9 w9 ho9 hg9 hb9
    have HG9:Hid (Grow wz w9):=η (grow_by (w0:=wz) ((HB.o.alloc _).alloc _) hg9 (fun q hq=>by have:=(HO4.o.lt q hq).1;have:=HZ.o;omega))
    have HO9:=η ho9
    have HK5:=η (HO5.o.grow (((Grow.refl wr).alloc (.cells #[.int .i64 q.deed,.slice ap q.parts.length cp,.bool true,.slice ah q.heard.length ch] 136)).alloc (.cells #[.int .i64 q.deed,.slice ap q.parts.length cp,.bool true,.slice ah q.heard.length ch] 136)))
    have HO59:=η (HAP.o.keep HK5.o hg9)
    have HAP9:=η (HAP.o.step HK5.o (hb9.imp_right fun⟨g,e,hge⟩=>⟨g,e,by simpa using hge⟩))
    clear ho9 hg9 hb9 HK5 q9
    go_wp2
    go_roundw
    case rel=>exact⟨k+1,by omega,by go_num,HG9.o,by rw [HF1.o];exact HO9.o,by rw [HF2.o];exact HO59.o,HAP9.o⟩
    case measure=>simp [intOf];omega
   |false=>
    rw [hd] at c2
    have HF1:=η HFD.o
    have HF2:=η HFM.o
    rw [if_neg (by simp [hd])] at HF1
    rw [if_pos (by simp [hd])] at HF2
    have HEQ:Hid (q=⟨q.deed,q.parts,false,q.heard⟩):=η (by cases q;simp_all)
    have HAB:=η (fun(W:World) (hW:Grow w W)=>ref_aborts (v:=.agg #[.int .i64 q.deed,.slice ap q.parts.length cp,.bool false,.slice ah q.heard.length ch]) (o:=q) W (by rw [HEQ.o];exact⟨_,rfl,_,_,rfl,HEL.o.1,HEL.o.2.1.mono (HC.o.trans hW.sub),HEL.o.2.2.mono (HC.o.trans hW.sub)⟩) (by omega))
    have HAL:=η (aborts_short q.deed q.parts)
    clear hd HFD HFM
    have q9:wr.heap.size<(wr.alloc (.cells #[.int .i64 q.deed,.slice ap q.parts.length cp,.bool false,.slice ah q.heard.length ch] 136)).heap.size:=by simp
    go_wp2_with fail
    refine(HAB.o _ (GB.o.alloc _)).mono ?_
    rintro e w4 ⟨v4,rfl,ho4,hb4⟩
    obtain⟨a6,c6,rfl⟩:=ho4.form
    have G4:=η (((Grow.refl wr).alloc _).trans hb4)
    have HSR:Hid (Src Ty.ms (fun _=>none) w4 (.slice a6 (abortsE q.deed q.parts).length c6) (abortsE q.deed q.parts)):=η ho4.srcA
    have HK4:=η (HO4.o.grow G4.o)
    have HK5:=η (HO5.o.grow G4.o)
    clear ho4 hb4 q9 c0 c1 c2 c3
    generalize abortsE q.deed q.parts=aq at*
    go_wp2_with (first|(at_builtin;refine wpList_appc (c:=fun _=>none) (base:=w.heap.size+2) (l:=ms) (m:=aq) ei_ms rfl one_Tms (by decide) rfl (.tmp 21) (.tmp 23) rfl rfl HK5.o rfl HSR.o ?d2 ?d3 ?_))
    case d2=>have:=HL5.o;have:=HAL.o;omega
    case d3=>have:=HB.o.size;have:=HZ.o;have:=G4.o.size;omega
    intro a9 c9 w9 ho9 hg9 hb9
    have HG9:Hid (Grow wz w9):=η (grow_by (w0:=wz) (HB.o.trans G4.o) hg9 (fun q hq=>by have:=(HO5.o.lt q hq).1;have:=HZ.o;omega))
    have HO9:=η ho9
    have HO49:=η (HAP.o.symm.keep HK4.o hg9)
    have HAP9:=η (HAP.o.symm.step HK4.o hb9).symm
    clear ho9 hg9 hb9 HK4 HK5
    go_wp2
    go_roundw
    case rel=>exact⟨k+1,by omega,by go_num,HG9.o,by rw [HF1.o];exact HO49.o,by rw [HF2.o];exact HO9.o,HAP9.o⟩
    case measure=>simp [intOf];omega
  ·have HF1:Hid ((h.opn.take k).filter (fun o=>o.dec)=(quitH h).opn):=η (by rw [List.take_of_length_le (by omega)];rfl)
   have HF2:Hid (((h.opn.take k).filter fun o=>!o.dec).flatMap (fun o=>abortsE o.deed o.parts)=quitM h):=η (by rw [List.take_of_length_le (by omega)];rfl)
   have RR1:=η (row_grow R1.o HB.o)
   have RR2:=η (row_grow R2.o HB.o)
   rw [HF1.o] at HO4 HAP ⊢
   rw [HF2.o] at HO5 HAP ⊢
   clear hel HF1 HF2
   generalize hqo:(quitH h).opn=qo at*
   have HQO:=η hqo
   clear hqo
   generalize hqm:quitM h=qm at*
   have HQM:=η hqm
   clear hqm
   go_wp2_with (first|(refine wpList_store_cell rfl (.tmp 27) (.tmp 26) (v:=.slice a4 qo.length c4) (new:=#[.slice al h.log.length cl,.int .i64 h.boot,.int .i64 h.next,.slice a4 qo.length c4]) rfl rfl (by rfl) (by rfl) RR1.o info_opns (by simp) (by rfl) (by rfl) ?_))
   intro w8 r8 g8
   have G8:=η (GB.o.grown g8 (fun q hq=>by simp at hq;omega))
   have R8:=η r8
   have R28:=η (row_by RR2.o g8 (by intro e;have:=Option.some.inj e;omega))
   have HO48:=η (HO4.o.kept g8 (by
    cases e:(Value.slice a4 qo.length c4).ownBlock with
    |none=>exact .inl rfl
    |some q=>exact .inr (by have:=(HO4.o.lt q e).1;intro e2;have:=Option.some.inj e2;omega)))
   have HO58:=η (HO5.o.kept g8 (by
    cases e:(Value.slice a5 qm.length c5).ownBlock with
    |none=>exact .inl rfl
    |some q=>exact .inr (by have:=(HO5.o.lt q e).1;intro e2;have:=Option.some.inj e2;omega)))
   obtain⟨c0,c1,c2,c3⟩:=cells4 r8
   have z8:w.heap.size<w8.heap.size:=(γ r8)
   clear r8 g8
   go_wp2_with (first|(refine wpList_store_row rfl (.tmp 2) (.tmp 28) rfl rfl rfl R28.o info_hd rfl rfl ?_))
   intro w7 r7 g7
   obtain⟨p0,p1,p2,p3⟩:=cells4 r7
   clear c0 c1 c2 c3
   go_wp2
   refine bodyPost_ret (v:=.tuple #[.agg #[.slice al h.log.length cl,.int .i64 h.boot,.int .i64 h.next,.slice a4 qo.length c4],.slice a5 qm.length c5]) (by simp [results,Try.results107,go_sem,p0,p1,p2,p3]) rfl ?_
   have G7:=G8.o.grown g7 (fun q hq=>by simp at hq;omega)
   refine⟨_,_,rfl,⟨_,rfl,_,_,rfl,HLG.o.mono (ov_in HC.o),HIB.o.1,HIB.o.2,?_⟩,?_,G7⟩
   ·rw [HQO.o]
    refine OwnC.slc (by decide) (HO48.o.kept g7 ?_) (ov_in HC.o) fun a ha=>ov_new (by omega)
    cases e:(Value.slice a4 qo.length c4).ownBlock with
    |none=>exact .inl rfl
    |some q=>exact .inr (by have:=(HO4.o.lt q e).1;intro e2;have:=Option.some.inj e2;omega)
   ·rw [HQM.o]
    refine OwnC.slc (c:=fun _=>none) (by decide) (HO58.o.kept g7 ?_) (fun _ _ e=>by cases e) fun a ha=>ov_new (by omega)
    cases e:(Value.slice a5 qm.length c5).ownBlock with
    |none=>exact .inl rfl
    |some q=>exact .inr (by have:=(HO5.o.lt q e).1;intro e2;have:=Option.some.inj e2;omega)
def Ty.oph:Ty (Opn×Value) where
 size:=4
 R:=fun c cs x=>∃vp:Value,cs=[.int .i64 x.1.deed,vp,.bool x.1.dec,x.2]∧I64 x.1.deed∧Sl Ty.pt c vp x.1.parts∧x.2.oneCell'=true
 len:=by rintro c cs x ⟨_,rfl,_⟩;rfl
 mono:=by rintro c c' cs x h ⟨a,rfl,h1,h2,h3⟩;exact⟨a,rfl,h1,h2.mono h,h3⟩
abbrev OpH:=Opn×Value
theorem one_Toph:TOne Ty.oph:=by
 rintro c cs x ⟨v,rfl,-,h,h'⟩ u hu
 simp only [List.mem_cons,List.not_mem_nil,or_false] at hu
 rcases hu with rfl|rfl|rfl|rfl
 ·rfl
 ·exact sl_oneCell h
 ·rfl
 ·exact h'
def ApO (a b:Option Nat):Prop:=a=none∨a≠b
theorem ApO.symm {a b:Option Nat} (h:ApO a b):ApO b a:=by
 rcases h with rfl|h
 ·cases b with
  |none=>exact .inl rfl
  |some q=>exact .inr (by simp)
 ·exact .inr fun e=>h e.symm
structure RowsOk (w W:World) (X:List (Option Nat)):Prop where
 pw:X.Pairwise ApO
 lt:∀q,some q∈X→w.heap.size≤q∧q<W.heap.size
theorem RowsOk.off {w W:World} {X:List (Option Nat)} (h:RowsOk w W X) {i j:Nat} {a b:Option Nat} (hi:X[i]? =some a) (hj:X[j]? =some b) (hne:i≠j):ApO a b:=by
 obtain⟨hi1,rfl⟩:=List.getElem?_eq_some_iff.1 hi
 obtain⟨hj1,rfl⟩:=List.getElem?_eq_some_iff.1 hj
 rcases Nat.lt_or_gt_of_ne hne with h1|h1
 ·exact List.pairwise_iff_getElem.1 h.pw i j hi1 hj1 h1
 ·exact(List.pairwise_iff_getElem.1 h.pw j i hj1 hi1 h1).symm
theorem RowsOk.later {w W W2:World} {X:List (Option Nat)} (h:RowsOk w W X) (hs:W.heap.size≤W2.heap.size):RowsOk w W2 X:=⟨h.pw,fun q hq=>by have:=h.lt q hq;omega⟩
theorem RowsOk.step {w W W2:World} {X:List (Option Nat)} {i:Nat} {r r':Option Nat} (h:RowsOk w W X) (hi:X[i]? =some r) (hg:W.grownBy W2 r) (hb:r'=r∨∃g,r'=some g∧W.heap.size≤g) (hl:∀q,r'=some q→w.heap.size≤q∧q<W2.heap.size):
  RowsOk w W2 (X.set i r')∧Sub (fr w W X) (fr w W2 (X.set i r')):=by
 have hs:=hg.size
 refine⟨⟨?_,fun q hq=>?_⟩,fr_step fun k hk h0 hx=>⟨hg.block k hk fun e=>hx (e▸List.mem_of_getElem? hi),fun hx'=>?_⟩⟩
 ·rw [List.pairwise_iff_getElem]
  intro a b ha hb' hab
  rw [List.length_set] at ha hb'
  have hv':∀j u,j≠i→X[j]? =some u→ApO r' u:=fun j u hj hu=>by
   rcases hb with rfl|⟨g,rfl,hge⟩
   ·exact h.off hi hu (Ne.symm hj)
   ·refine .inr fun e=>?_
    have:=(h.lt g (e▸List.mem_of_getElem? hu)).2
    omega
  rw [List.getElem_set,List.getElem_set]
  by_cases h1:i=a
  ·rw [if_pos h1,if_neg (by omega)]
   exact hv' b _ (by omega) (List.getElem?_eq_getElem hb')
  ·rw [if_neg h1]
   by_cases h2:i=b
   ·rw [if_pos h2]
    exact(hv' a _ (by omega) (List.getElem?_eq_getElem ha)).symm
   ·rw [if_neg h2]
    exact List.pairwise_iff_getElem.1 h.pw a b ha hb' hab
 ·rcases List.mem_or_eq_of_mem_set hq with hq|hq
  ·have:=h.lt q hq;omega
  ·exact hl q hq.symm
 ·rcases List.mem_or_eq_of_mem_set hx' with hu|e
  ·exact hx hu
  ·rcases hb with rfl|⟨g,rfl,hge⟩
   ·exact hx (e▸List.mem_of_getElem? hi)
   ·have:=Option.some.inj e
    omega
theorem RowsOk.less {w W:World} {X Y:List (Option Nat)} (h:RowsOk w W X) (hp:Y.Pairwise ApO) (hs:∀q,some q∈Y→some q∈X):RowsOk w W Y∧Sub (fr w W X) (fr w W Y):=
 ⟨⟨hp,fun q hq=>h.lt q (hs q hq)⟩,fr_step fun _ _ _ hx=>⟨rfl,fun hy=>hx (hs _ hy)⟩⟩
def hro (B:Nat) (vl vo:Value) (L:List OpH):List (Option Nat):=some B::vl.ownBlock::vo.ownBlock::L.map (·.2.ownBlock)
structure HR (w W:World) (B:Nat) (vl vo:Value) (lg:List Rc) (L:List OpH):Prop where
 log:OwnC Ty.rc (fr w W (hro B vl vo L)) W w.heap.size 48 vl lg
 opn:OwnC Ty.oph (fr w W (hro B vl vo L)) W w.heap.size 136 vo L
 heard:∀x∈L,OwnC Ty.int (fun _=>none) W w.heap.size 3 x.2 x.1.heard
 ok:RowsOk w W (hro B vl vo L)
 grow:Grow w W
theorem OwnC.of_oph {c d:CM} {w:World} {base e:Nat} {v:Value} {L:List OpH} (h:OwnC Ty.oph c w base e v L) (hs:Sub c d) (hh:∀x∈L,Sl Ty.int d x.2 x.1.heard):OwnC Ty.opn d w base e v (L.map (·.1)):=by
 obtain⟨css,h1,h2,h3⟩:=h
 refine⟨css,by rw [List.length_map];exact h1,by simp [h2],fun i cs x a b=>?_⟩
 rw [List.getElem?_map] at b
 cases hL:L[i]? with
 |none=>rw [hL] at b;cases b
 |some y=>
  rw [hL] at b
  obtain rfl:=Option.some.inj b
  obtain⟨vp,he,hi,hp,-⟩:=h3 i cs y a hL
  exact⟨vp,y.2,he,hi,hp.mono hs,hh y (List.mem_of_getElem? hL)⟩
section
variable {w W:World} {B:Nat} {vl vo:Value} {lg:List Rc} {L:List OpH}
theorem HR.heardSl (b:HR w W B vl vo lg L) (x:OpH) (hx:x∈L):Sl Ty.int (ov (fun _=>none) w W) x.2 x.1.heard:=
 (b.heard x hx).slc (by decide) (fun a v e=>by cases e) fun a ha=>ov_new ha
theorem HR.opns (b:HR w W B vl vo lg L):OwnC Ty.opn (ov (fun _=>none) w W) W w.heap.size 136 vo (L.map (·.1)):=b.opn.of_oph (fr_ov (fun _=>none) _ _ _) b.heardSl
theorem HR.of (b:HR w W B vl vo lg L) {boot next:Int} (h1:I64 boot) (h2:I64 next):Of Ty.hd (ov (fun _=>none) w W) (.agg #[vl,.int .i64 boot,.int .i64 next,vo]) ⟨lg,boot,next,L.map (·.1)⟩:=
 ⟨_,rfl,vl,vo,rfl,b.log.slc (by decide) (fr_ov _ _ _ _) fun a ha=>ov_new ha,h1,h2,b.opns.slc (by decide) (Sub.refl _) fun a ha=>ov_new ha⟩
theorem HR.later {W2:World} (b:HR w W B vl vo lg L) (hg:Grow W W2):HR w W2 B vl vo lg L where
 log:=(b.log.mono (fr_grow hg)).grow hg
 opn:=(b.opn.mono (fr_grow hg)).grow hg
 heard:=fun x hx=>(b.heard x hx).grow hg
 ok:=b.ok.later hg.size
 grow:=b.grow.trans hg
theorem HR.at_heard {k:Nat} {x:OpH} (hk:L[k]? =some x):(hro B vl vo L)[k+3]? =some x.2.ownBlock:=by
 simp [hro,List.getElem?_map,hk]
theorem apo_off {v:Value} {r:Option Nat} (h:ApO v.ownBlock r):v.ownBlock=none∨v.ownBlock≠r:=h
theorem HR.box {W2:World} (b:HR w W B vl vo lg L) (hg:W.grownBy W2 (some B)):HR w W2 B vl vo lg L:=by
 have h0:(hro B vl vo L)[0]? =some (some B):=rfl
 obtain⟨k1,k2⟩:=b.ok.step h0 hg (.inl rfl) (fun q hq=>by have:=b.ok.lt q (hq▸List.mem_of_getElem? h0);have:=hg.size;omega)
 have e:(hro B vl vo L).set 0 (some B)=hro B vl vo L:=rfl
 rw [e] at k1 k2
 refine⟨(b.log.mono k2).kept hg (apo_off (b.ok.off (i:=1) (j:=0) rfl h0 (by decide))),(b.opn.mono k2).kept hg (apo_off (b.ok.off (i:=2) (j:=0) rfl h0 (by decide))),fun x hx=>?_,k1,b.grow.grown hg (fun k hk=>(b.ok.lt k (hk▸List.mem_of_getElem? h0)).1)⟩
 obtain⟨i,hi,rfl⟩:=List.mem_iff_getElem.1 hx
 exact(b.heard _ hx).kept hg (apo_off (b.ok.off (HR.at_heard (List.getElem?_eq_getElem hi)) h0 (by omega)))
theorem HR.logs {W2:World} {vl':Value} {lg':List Rc} (b:HR w W B vl vo lg L) (hg:W.grownBy W2 vl.ownBlock) (hb:vl'.ownBlock=vl.ownBlock∨∃g,vl'.ownBlock=some g∧W.heap.size≤g)
  (ho:OwnC Ty.rc (fr w W (hro B vl vo L)) W2 w.heap.size 48 vl' lg'):HR w W2 B vl' vo lg' L:=by
 have h0:(hro B vl vo L)[1]? =some vl.ownBlock:=rfl
 obtain⟨k1,k2⟩:=b.ok.step h0 hg hb ho.lt
 have e:(hro B vl vo L).set 1 vl'.ownBlock=hro B vl' vo L:=rfl
 rw [e] at k1 k2
 refine⟨ho.mono k2,(b.opn.mono k2).kept hg (apo_off (b.ok.off (i:=2) (j:=1) rfl h0 (by decide))),fun x hx=>?_,k1,b.grow.grown hg (fun k hk=>(b.log.lt k hk).1)⟩
 obtain⟨i,hi,rfl⟩:=List.mem_iff_getElem.1 hx
 exact(b.heard _ hx).kept hg (apo_off (b.ok.off (HR.at_heard (List.getElem?_eq_getElem hi)) h0 (by omega)))
theorem HR.put {W2:World} {vo':Value} {L':List OpH} (b:HR w W B vl vo lg L) (hg:W.grownBy W2 vo.ownBlock) (hb:vo'.ownBlock=vo.ownBlock∨∃g,vo'.ownBlock=some g∧W.heap.size≤g)
  (ho:OwnC Ty.oph (fr w W (hro B vl vo L)) W2 w.heap.size 136 vo' L') (hh:∀x∈L',x∈L∨x.2=.slice none 0 0∧x.1.heard=[]) (hp:(L'.map (·.2.ownBlock)).Pairwise ApO):HR w W2 B vl vo' lg L':=by
 have h0:(hro B vl vo L)[2]? =some vo.ownBlock:=rfl
 obtain⟨k1,k2⟩:=b.ok.step h0 hg hb ho.lt
 have e:(hro B vl vo L).set 2 vo'.ownBlock=hro B vl vo' L:=rfl
 rw [e] at k1 k2
 have hin:∀q,some q∈L'.map (·.2.ownBlock)→some q∈L.map (·.2.ownBlock):=fun q hq=>by
  obtain⟨x,hx,e⟩:=List.mem_map.1 hq
  rcases hh x hx with h|⟨h,-⟩
  ·exact List.mem_map.2 ⟨x,h,e⟩
  ·rw [h] at e;cases e
 have hsub:∀q,some q∈hro B vl vo' L'→some q∈hro B vl vo' L:=fun q hq=>by
  unfold hro at hq ⊢
  rcases List.mem_cons.1 hq with h|hq
  ·exact List.mem_cons.2 (.inl h)
  rcases List.mem_cons.1 hq with h|hq
  ·exact List.mem_cons.2 (.inr (List.mem_cons.2 (.inl h)))
  rcases List.mem_cons.1 hq with h|hq
  ·exact List.mem_cons.2 (.inr (List.mem_cons.2 (.inr (List.mem_cons.2 (.inl h)))))
  ·exact List.mem_cons.2 (.inr (List.mem_cons.2 (.inr (List.mem_cons.2 (.inr (hin q hq))))))
 have hpw:(hro B vl vo' L').Pairwise ApO:=by
  have p:=k1.pw
  unfold hro at p ⊢
  simp only [List.pairwise_cons] at p ⊢
  have up:∀a:Option Nat,(∀c∈L.map (·.2.ownBlock),ApO a c)→∀c∈L'.map (·.2.ownBlock),ApO a c:=fun a ha c hc=>by
   cases c with
   |none=>exact ApO.symm (.inl rfl)
   |some q=>exact ha _ (hin q hc)
  refine⟨fun c hc=>?_,fun c hc=>?_,up _ p.2.2.1,hp⟩
  ·rcases List.mem_cons.1 hc with rfl|hc
   ·exact p.1 _ (by simp)
   ·rcases List.mem_cons.1 hc with rfl|hc
    ·exact p.1 _ (by simp)
    ·exact up _ (fun c hc=>p.1 c (by simp at hc ⊢;exact .inr (.inr hc))) c hc
  ·rcases List.mem_cons.1 hc with rfl|hc
   ·exact p.2.1 _ (by simp)
   ·exact up _ (fun c hc=>p.2.1 c (by simp at hc ⊢;exact .inr hc)) c hc
 obtain⟨k3,k4⟩:=k1.less hpw hsub
 have k5:=k2.trans k4
 refine⟨(b.log.mono k5).kept hg (apo_off (b.ok.off (i:=1) (j:=2) rfl h0 (by decide))),ho.mono k5,fun x hx=>?_,k3,b.grow.grown hg (fun k hk=>(b.opn.lt k hk).1)⟩
 rcases hh x hx with h|⟨h1,h2⟩
 ·obtain⟨i,hi,rfl⟩:=List.mem_iff_getElem.1 h
  exact(b.heard _ h).kept hg (apo_off (b.ok.off (HR.at_heard (List.getElem?_eq_getElem hi)) h0 (by omega)))
 ·rw [h1,h2];exact OwnC.nil _ _ _ _ _
end
theorem OwnC.cellSet {α:Type} {T:Ty α} {c:CM} {w:World} {base e g n cap:Nat} {l:List α} (h:OwnC T c w base e (.slice (some ⟨g,0,none⟩) n cap) l) (hn:n=l.length) {i j:Nat} {x x':α} (hi:l[i]? =some x) (hj:j<T.size) {u:Value}
  (hR:∀cs,T.R c cs x→T.R c (cs.set j u) x'):OwnC T c (w.setCell ⟨g,i*T.size+j,none⟩ u) base e (.slice (some ⟨g,0,none⟩) n cap) (l.set i x'):=by
 obtain⟨css,h1,h2,h3⟩:=h
 subst hn
 have hil:=(List.getElem?_eq_some_iff.1 hi).1
 have hcl:=css_len h2 h3
 have hcx:css[i]? =some css[i]:=List.getElem?_eq_getElem (by omega)
 have hci:=h3 i css[i] x hcx hi
 have k2:=(h1.stored (i*T.size+j) u).1
 have e1:(css.set i (css[i].set j u)).flatten=css.flatten.set (i*T.size+j) u:=by
  have h0:0<T.size:=by omega
  have hcl':∀cs∈css.set i (css[i].set j u),cs.length=T.size:=fun cs hcs=>by
   rcases List.mem_or_eq_of_mem_set hcs with h|rfl
   ·exact hcl cs h
   ·rw [List.length_set];exact T.len hci
  apply List.ext_getElem?
  intro q
  rw [flatten_at h0 _ hcl',List.getElem?_set,List.getElem?_set,flatten_at h0 css hcl]
  by_cases hq:i=q/T.size
  ·rw [if_pos hq]
   subst hq
   rw [if_pos (by omega),hcx]
   simp only [Option.bind_some,List.getElem?_set]
   have hdm:=Nat.div_add_mod q T.size
   rw [Nat.mul_comm] at hdm
   by_cases hj2:j=q % T.size
   ·rw [if_pos hj2,if_pos (by rw [T.len hci];exact hj),if_pos (by omega),if_pos (by
     rw [flatten_len css hcl,h2]
     have:(q/T.size+1)*T.size≤l.length*T.size:=Nat.mul_le_mul_right _ (by omega)
     rw [Nat.add_mul] at this;omega)]
   ·rw [if_neg hj2,if_neg (by omega)]
  ·rw [if_neg hq,if_neg (fun e=>hq (by
    rw [←e,Nat.mul_comm,Nat.mul_add_div h0,Nat.div_eq_of_lt hj,Nat.add_zero]))]
 refine⟨css.set i (css[i].set j u),by rw [e1];simpa using k2,by simp [h2],fun q cs y a b=>?_⟩
 rw [List.getElem?_set] at a b
 by_cases hq:i=q
 ·rw [if_pos hq,if_pos (by omega)] at a b
  obtain rfl:=Option.some.inj a
  obtain rfl:=Option.some.inj b
  exact hR _ hci
 ·rw [if_neg hq] at a b
  exact h3 q cs y a b
section
variable {P:Program} {ops:Array Oper} {Q:Exit→Act→World→Prop} {md:Region.Mode} {S:World→Prop} {C:List Nat}
def wpC (P:Program) (md:Region.Mode) (ops:Array Oper) (Q:Exit→Act→World→Prop) (S:World→Prop) (C:List Nat):Nat→Array Bool→Act→World→Prop
 |0,listed,a,w=>Region.ready md ops listed=[]∧Q .normal a w
 |fuel+1,listed,a,w=>(Region.ready md ops listed=[]→Q .normal a w)∧∀i∈Region.ready md ops listed,wpOp P ops Q i (fun a' w'=>(i∈C∨S w')∧wpC P md ops Q S C fuel (listed.setIfInBounds i true) a' w') a w
theorem wpC_any:∀(fuel:Nat) (listed:Array Bool) (a:Act) (w:World),wpC P md ops Q S C fuel listed a w→wpAny P md ops Q fuel listed a w
 |0,_,_,_,h=>h
 |_+1,_,_,_,h=>⟨h.1,fun i hi=>wpOp_mono (fun a' w' h'=>wpC_any _ _ a' w' h'.2) (h.2 i hi)⟩
theorem wpC_first {i f:Nat} {oi:Oper} {v:Value} (hi:ops[i]? =some oi) (hsel:∀(j:Nat) (o:Oper) cs b,ops[j]? =some o→o.op≠ .select cs b)
  (hQ:∀k a w,Q (.panic k) (a.put oi.dst v) w→Q (.panic k) a w) (hw:∀c∈C,waitsFor md ops f i c=true):
  ∀(fuel:Nat) (listed:Array Bool) (a:Act) (w:World),DownSet md ops listed→
   (∀j oj,ops[j]? =some oj→j≠i→listed.getD j true=false→(∀e∈oj.after,Region.binds md e=true→e.on≠i)→oi.apart ops oj=true)→
   i∈Region.ready md ops listed→YieldsIf P ops S oi v a→S w→
   wpC P md ops Q S C fuel (listed.setIfInBounds i true) (a.put oi.dst v) w→wpC P md ops Q S C (fuel+1) listed a w:=by
 have hun:∀listed:Array Bool,i∈Region.ready md ops listed→listed.getD i false=false:=by
  intro listed hr
  have h0:=(mem_ready.1 hr).1
  by_cases hl:i<listed.size
  ·simp [hl] at h0 ⊢;exact h0
  ·simp [hl]
 intro fuel
 induction fuel with
 |zero=>
  intro listed a w _ _ hr hy hS H
  refine⟨fun h=>(by rw [h] at hr;cases hr),fun j hj=>?_⟩
  by_cases hji:j=i
  ·subst hji;exact hy.wpOp hi hS ⟨.inr hS,H⟩
  ·have:=ready_mono hj hji
   rw [H.1] at this
   cases this
 |succ fuel ih=>
  intro listed a w hcl hfree hr hy hS H
  refine⟨fun h=>(by rw [h] at hr;cases hr),fun j hj=>?_⟩
  by_cases hji:j=i
  ·subst hji;exact hy.wpOp hi hS ⟨.inr hS,H⟩
  ·have hjc:j∉C:=fun e=>(waits_spec hcl (hun _ hr) (hw j e)).1 hj
   have h1:=H.2 j (ready_mono hj hji)
   obtain⟨hjun,oj,hoj,hall⟩:=mem_ready.1 hj
   have hnot:∀e∈oj.after,Region.binds md e=true→e.on≠i:=fun e he hb heq=>by
    have h1:=hall e he hb
    rw [heq,hun _ hr] at h1
    cases h1
   have h2:=wpOp_putIf hoj (hfree j oj hoj hji hjun hnot) (fun cs b=>hsel i oi cs b hi) (fun cs b=>hsel j oj cs b hoj) hQ hy h1
   refine wpOp_mono (fun a' w' h3=>have hs3:=h3.2.1.resolve_left hjc;⟨.inr hs3,ih (listed.setIfInBounds j true) a' w' (hcl.set hj) (fun k ok hk hki hku hno=>?_) (ready_mono hr (Ne.symm hji)) h3.1 hs3 ?_⟩) h2
   ·refine hfree k ok hk hki ?_ hno
    by_cases hjk:j=k
    ·subst hjk;exact hjun
    ·rw [getD_set_ne true hjk] at hku;exact hku
   ·rw [Array.setIfInBounds_comm _ _ hji]
    exact h3.2.2
def tkC (P:Program) (md:Region.Mode) (ops:Array Oper) (Q:Exit→Act→World→Prop) (S:World→Prop) (C:List Nat) (w:World):List Nat→Nat→Array Bool→Act→Prop
 | [],fuel,listed,a=>wpC P md ops Q S C fuel listed a w
 |i::is,F,listed,a=>∃fuel oi v,F=fuel+1∧ops[i]? =some oi∧YieldsIf P ops S oi v a∧tkC P md ops Q S C w is fuel (listed.setIfInBounds i true) (a.put oi.dst v)
def tkBC (md:Region.Mode) (ops:Array Oper) (C:List Nat) (f:Nat):List Nat→Array Bool→Bool
 | [],_=>true
 |i::is,listed=>Region.free md ops listed i&&((Region.ready md ops listed).contains i&&((C.all fun c=>waitsFor md ops f i c)&&tkBC md ops C f is (listed.setIfInBounds i true)))
theorem tkC_go {w:World} (hsel:∀(j:Nat) (o:Oper) cs b,ops[j]? =some o→o.op≠ .select cs b) (hQ:∀k d v a w,Q (.panic k) (a.put (some d) v) w→Q (.panic k) a w) (hS:S w) (f:Nat):∀(is:List Nat) (fuel:Nat) (listed:Array Bool) (a:Act),DownSet md ops listed→tkBC md ops C f is listed=true→tkC P md ops Q S C w is fuel listed a→wpC P md ops Q S C fuel listed a w
 | [],_,_,_,_,_,h=>h
 |i::is,_,listed,a,hd,hb,h=>by
  obtain⟨fuel,oi,v,rfl,hi,hy,h⟩:=h
  simp only [tkBC,Bool.and_eq_true] at hb
  obtain⟨b1,b2,b3,b4⟩:=hb
  have hr:i∈Region.ready md ops listed:=by simpa using b2
  exact wpC_first hi hsel (fun k a w h=>by
   cases hd:oi.dst with
   |none=>rw [hd] at h;exact h
   |some d=>rw [hd] at h;exact hQ k d _ a w h) (fun c hc=>List.all_eq_true.1 b3 c hc) fuel listed a w hd (Region.free_spec hi b1) hr hy hS (tkC_go hsel hQ hS f is fuel _ _ (hd.set hr) b4 h)
theorem bLc (is:List Nat) (f:Nat) {fuel:Nat} {listed:Array Bool} {a:Act} {w:World} (h5:(Region.noSelect ops&&(shutB md ops listed&&tkBC md ops C f is listed))=true) (hQ:∀k d v a w,Q (.panic k) (a.put (some d) v) w→Q (.panic k) a w) (hS:S w)
  (h:tkC P md ops Q S C w is fuel listed a):wpC P md ops Q S C fuel listed a w:=by
 simp only [Bool.and_eq_true] at h5
 exact tkC_go (Region.noSelect_spec h5.1) hQ hS f is fuel listed a (shut_of h5.2.1) h5.2.2 h
theorem tNc {i:Nat} {is:List Nat} {fuel:Nat} {listed:Array Bool} {a:Act} {w:World} {oi:Oper} {v:Value} (hi:ops[i]? =some oi) (hw:Region.wanted oi (yielded ops a.tmps)=true) (hy:∀w,S w→(execOp a.eval oi).run P w=.ok (.value v) w)
  (h:tkC P md ops Q S C w is fuel (listed.setIfInBounds i true) (a.put oi.dst v)):tkC P md ops Q S C w (i::is) (fuel+1) listed a:=⟨fuel,oi,v,rfl,hi,.inl ⟨hw,hy⟩,h⟩
theorem tEc {fuel:Nat} {listed:Array Bool} {a:Act} {w:World} (h:wpC P md ops Q S C fuel listed a w):tkC P md ops Q S C w [] fuel listed a:=h
theorem bDc {listed:Array Bool} {a:Act} {w:World} {fuel:Nat} (hr:Region.ready md ops listed=[]) (h:Q .normal a w):wpC P md ops Q S C fuel listed a w:=by
 cases fuel with
 |zero=>exact⟨hr,h⟩
 |succ n=>exact⟨fun _=>h,by rw [hr];simp⟩
theorem bOc (i:Nat) {o:Oper} {fuel:Nat} {listed:Array Bool} {a:Act} {w:World} (hr:Region.ready md ops listed=[i]) (hi:ops[i]? =some o)
  (h:∀K:Act→World→Prop,Hid (∀a' w',(i∈C∨S w')∧wpC P md ops Q S C fuel (listed.setIfInBounds i true) a' w'→K a' w')→if Region.wanted o (yielded ops a.tmps)=true then Oper.wp P o a w K Q else K (a.put o.dst undef) w):
  wpC P md ops Q S C (fuel+1) listed a w:=by
 refine⟨fun h0=>absurd (h0.symm.trans hr) (by simp),fun j hj=>?_⟩
 rw [hr] at hj
 obtain rfl:j=i:=by simpa using hj
 exact wpOp_step hi fun K hK=>h K (η hK)
theorem bPc (i j:Nat) {o o':Oper} {fuel:Nat} {listed:Array Bool} {a:Act} {w:World} (hr:Region.ready md ops listed=[i,j]) (hi:ops[i]? =some o) (hj:ops[j]? =some o')
  (h:∀K:Act→World→Prop,Hid (∀a' w',(i∈C∨S w')∧wpC P md ops Q S C fuel (listed.setIfInBounds i true) a' w'→K a' w')→if Region.wanted o (yielded ops a.tmps)=true then Oper.wp P o a w K Q else K (a.put o.dst undef) w)
  (h':∀K:Act→World→Prop,Hid (∀a' w',(j∈C∨S w')∧wpC P md ops Q S C fuel (listed.setIfInBounds j true) a' w'→K a' w')→if Region.wanted o' (yielded ops a.tmps)=true then Oper.wp P o' a w K Q else K (a.put o'.dst undef) w):
  wpC P md ops Q S C (fuel+1) listed a w:=by
 refine⟨fun h0=>absurd (h0.symm.trans hr) (by simp),fun x hx=>?_⟩
 rw [hr] at hx
 have hx:x=i∨x=j:=by simpa using hx
 rcases hx with rfl|rfl
 ·exact wpOp_step hi fun K hK=>h K (η hK)
 ·exact wpOp_step hj fun K hK=>h' K (η hK)
theorem bSc (S:World→Prop) (C:List Nat) {id:Nat} {a:Act} {w:World} (hm:P.follows .mixedOrders=true) (h:∀wd,Grow w wd→w.heap.size=wd.heap.size→wpC P .any ops Q S C ops.size (Array.replicate ops.size false) a wd):(Code.region id ops true).wp P Q a w:=
 wp_region_any hm (wpC_any _ _ _ _ (h w.drew ((Grow.refl _).drew) rfl))
end
theorem own_apart {α:Type} {T:Ty α} {c:CM} {w:World} {base e B:Nat} {v:Value} {l:List α} (h:OwnC T c w base e v l) (hB:B<base):v.ownBlock=none∨v.ownBlock≠some B:=by
 cases e:v.ownBlock with
 |none=>exact .inl rfl
 |some q=>exact .inr (by have:=(h.lt q e).1;intro e2;have:=Option.some.inj e2;omega)
theorem begin_full {h:Hd} {P:List Pt} (hf:fullE h=true):beginH h P=h∧beginM h P=[]∧beginE h=9:=by
 unfold beginH beginM beginE
 rw [if_pos hf,if_pos hf,if_pos hf]
 exact⟨rfl,rfl,rfl⟩
theorem begin_go {h:Hd} {P:List Pt} (hf:fullE h=false):beginH h P={ h with opn:=h.opn++ [newO h P],next:=h.next+1 }∧beginM h P=asksE (newO h P)∧beginE h=0:=by
 unfold beginH beginM beginE
 rw [if_neg (by simp [hf]),if_neg (by simp [hf]),if_neg (by simp [hf])]
 exact⟨rfl,rfl,rfl⟩
set_option maxRecDepth 100000 in
set_option maxHeartbeats 4000000 in
theorem ref_begin {c:CM} {v vp:Value} {h:Hd} {P:List Pt} (w:World) (hc:Sub c w.cell?) (hv:Of Ty.hd c v h) (hp:Pts c vp P) (hk:HdOk h) (hP:P.length≤4):
  Calls Try.prog 111 #[v,vp] w fun e w'=>∃v1 v2,e=.returned (.tuple #[v1,v2,.int .i64 (beginE h)])∧Of Ty.hd (ov c w w') v1 (beginH h P)∧Sl Ty.ms (ov c w w') v2 (beginM h P)∧Grow w w':=by
 obtain⟨al,cl,ar,cr,rfl⟩:=hv.hd_form
 obtain⟨ap,cp,rfl,-⟩:=id hp
 have HV:=η hv
 have HLG:=η (Of.hd_log hv).1
 have HOG:=η (Of.hd_log hv).2
 have HPG:=η hp
 have HIB:Hid (I64 h.boot∧I64 h.next):=η (by obtain⟨cs,he,_,_,rfl,_,h1,h2,_⟩:=hv;exact⟨h1,h2⟩)
 have HL12:=η hk.opn
 obtain⟨hb0,hb1⟩:=hk.boot
 obtain⟨hn0,hn1⟩:=hk.next
 have HC:=η hc
 clear hk hv hp hc
 obtain⟨wa,hwa⟩:∃y:World,y=w.alloc (.cells #[.slice al h.log.length cl,.int .i64 h.boot,.int .i64 h.next,.slice ar h.opn.length cr] 57):=⟨_,rfl⟩
 obtain⟨wz,hwz⟩:∃y:World,y=wa.alloc (.cells #[.slice none 0 0,.int .i64 0,.int .i64 0,.slice none 0 0] 57):=⟨_,rfl⟩
 have hsz:wa.heap.size=w.heap.size+1:=by rw [hwa];simp
 have R1:Hid (wz.heap[w.heap.size]? =some (.cells #[.slice al h.log.length cl,.int .i64 h.boot,.int .i64 h.next,.slice ar h.opn.length cr] 57 (0,0))):=η (by rw [hwz,hwa];exact heap_later (row_new _ _) _)
 have R2:Hid (wz.heap[w.heap.size+1]? =some (.cells #[.slice none 0 0,.int .i64 0,.int .i64 0,.slice none 0 0] 57 (0,0))):=η (by rw [hwz,←hsz];exact row_new _ _)
 have G1:Hid (Grow w wz):=η (by rw [hwz,hwa];exact((Grow.refl w).alloc _).alloc _)
 have HZ:Hid (wz.heap.size=w.heap.size+2):=η (by rw [hwz,hwa];simp)
 by_cases hf1:11<h.opn.length
 ·obtain⟨e1,e2,e3⟩:=begin_full (P:=P) (show fullE h=true from decide_eq_true (.inl hf1))
  have HE1:=η e1
  have HE2:=η e2
  have HE3:=η e3
  have hf1':(11:Int)<(h.opn.length:Int):=by omega
  clear e1 e2 e3 hf1
  go_enter Try.func111,Try.ntmps111
  go_upto_region 1 with fail
  rw [←hwa]
  try rw [hsz]
  rw [←hwz]
  clear hwa hwz hsz
  obtain⟨c0,c1,c2,c3⟩:=cells4 R1.o
  have z1:w.heap.size<wz.heap.size:=(γ R1.o)
  go_wp2_with (first|(refine wpList_store_row rfl (.tmp 4) (.tmp 17) rfl rfl rfl R2.o info_hd rfl rfl ?_))
  intro w7 r7 g7
  obtain⟨p0,p1,p2,p3⟩:=cells4 r7
  clear c0 c1 c2 c3
  go_wp2
  refine bodyPost_ret (v:=.tuple #[.agg #[.slice al h.log.length cl,.int .i64 h.boot,.int .i64 h.next,.slice ar h.opn.length cr],.slice none 0 0,.int .i64 9]) (by simp [results,Try.results111,go_sem,p0,p1,p2,p3]) rfl ?_
  have G7:=G1.o.grown g7 (fun q hq=>by simp at hq;omega)
  rw [HE1.o,HE2.o,HE3.o]
  exact⟨_,_,rfl,HV.o.mono (ov_in HC.o),Sl.nil _ _,G7⟩
 by_cases hf2:63<h.next
 ·obtain⟨e1,e2,e3⟩:=begin_full (P:=P) (show fullE h=true from decide_eq_true (.inr hf2))
  have HE1:=η e1
  have HE2:=η e2
  have HE3:=η e3
  have hf1':¬(11:Int)<(h.opn.length:Int):=by omega
  clear e1 e2 e3 hf1
  go_enter Try.func111,Try.ntmps111
  go_upto_region 1 with fail
  rw [←hwa]
  try rw [hsz]
  rw [←hwz]
  clear hwa hwz hsz
  obtain⟨c0,c1,c2,c3⟩:=cells4 R1.o
  have z1:w.heap.size<wz.heap.size:=(γ R1.o)
  go_wp2_with (first|(refine wpList_store_row rfl (.tmp 4) (.tmp 17) rfl rfl rfl R2.o info_hd rfl rfl ?_))
  intro w7 r7 g7
  obtain⟨p0,p1,p2,p3⟩:=cells4 r7
  clear c0 c1 c2 c3
  go_wp2
  refine bodyPost_ret (v:=.tuple #[.agg #[.slice al h.log.length cl,.int .i64 h.boot,.int .i64 h.next,.slice ar h.opn.length cr],.slice none 0 0,.int .i64 9]) (by simp [results,Try.results111,go_sem,p0,p1,p2,p3]) rfl ?_
  have G7:=G1.o.grown g7 (fun q hq=>by simp at hq;omega)
  rw [HE1.o,HE2.o,HE3.o]
  exact⟨_,_,rfl,HV.o.mono (ov_in HC.o),Sl.nil _ _,G7⟩
 obtain⟨e1,e2,e3⟩:=begin_go (P:=P) (show fullE h=false from decide_eq_false (by omega))
 have HE1:=η e1
 have HE2:=η e2
 have HE3:=η e3
 have hf1':¬(11:Int)<(h.opn.length:Int):=by omega
 have hw1:IntKind.i64.wrap (64*h.boot)=64*h.boot:=IntWalk.i64_in _ (by omega)
 have hw2:IntKind.i64.wrap (64*h.boot+h.next)=64*h.boot+h.next:=IntWalk.i64_in _ (by omega)
 have hw3:IntKind.i64.wrap (h.next+1)=h.next+1:=IntWalk.i64_in _ (by omega)
 have HDI:Hid (I64 (64*h.boot+h.next)):=η (i64_of (by omega) (by omega))
 have HNI:Hid (I64 (h.next+1)):=η (i64_of (by omega) (by omega))
 clear e1 e2 e3 hf1
 go_enter Try.func111,Try.ntmps111
 go_upto_region 1 with fail
 rw [←hwa]
 try rw [hsz]
 rw [←hwz]
 clear hwa hwz hsz
 obtain⟨c0,c1,c2,c3⟩:=cells4 R1.o
 have z1:w.heap.size<wz.heap.size:=(γ R1.o)
 go_upto_region 4 with fail
 obtain⟨dd,hdd⟩:∃x,x=64*h.boot+h.next:=⟨_,rfl⟩
 rw [←hdd] at HDI ⊢
 have HDD:=η hdd
 obtain⟨wo3,hwo⟩:∃y:World,y=wz.alloc (.cells #[.int .i64 dd,.slice ap P.length cp,.bool false,.slice none 0 0] 136):=⟨_,rfl⟩
 have R7:Hid (wo3.heap[w.heap.size+2]? =some (.cells #[.int .i64 dd,.slice ap P.length cp,.bool false,.slice none 0 0] 136 (0,0))):=η (by rw [hwo,←HZ.o];exact row_new _ _)
 have GZ:Hid (Grow wz wo3):=η (by rw [hwo];exact(Grow.refl _).alloc _)
 have HZ3:Hid (wo3.heap.size=w.heap.size+3):=η (by rw [hwo];simp [HZ.o])
 rw [←hwo]
 try rw [HZ.o]
 clear hwo hdd hw1 hw2 c0 c1 c2 c3
 have R13:=η (row_grow R1.o GZ.o)
 have R23:=η (row_grow R2.o GZ.o)
 have GW3:=η (G1.o.trans GZ.o)
 have HS:Hid (∀W,Grow wo3 W→W.cell? ⟨w.heap.size,3,none⟩=some (.slice ar h.opn.length cr)∧W.cell? ⟨w.heap.size+2,0,none⟩=some (.int .i64 dd)∧W.cell? ⟨w.heap.size+2,1,none⟩=some (.slice ap P.length cp)∧W.cell? ⟨w.heap.size+2,2,none⟩=some (.bool false)∧W.cell? ⟨w.heap.size+2,3,none⟩=some (.slice none 0 0)):=fun W hW=>by
  obtain⟨-,-,-,k3⟩:=cells4 (row_grow R13.o hW)
  obtain⟨j0,j1,j2,j3⟩:=cells4 (row_grow R7.o hW)
  exact⟨k3,j0,j1,j2,j3⟩
 have HSRC:=η (fun(W:World) (hW:Grow wo3 W)=>Src.of_sl_c (T:=Ty.opn) (by decide) (HC.o.trans (GW3.o.trans hW).sub) HOG.o)
 have HRO:Hid (Ty.opn.R c [.int .i64 dd,.slice ap P.length cp,.bool false,.slice none 0 0] ⟨dd,P,false,[]⟩):=η ⟨_,_,rfl,HDI.o,HPG.o,Sl.nil _ _⟩
 refine but_start (fun w'=>w'.cell? ⟨w.heap.size,3,none⟩=some (.slice ar h.opn.length cr)∧w'.cell? ⟨w.heap.size+2,0,none⟩=some (.int .i64 dd)∧w'.cell? ⟨w.heap.size+2,1,none⟩=some (.slice ap P.length cp)∧w'.cell? ⟨w.heap.size+2,2,none⟩=some (.bool false)∧w'.cell? ⟨w.heap.size+2,3,none⟩=some (.slice none 0 0)) 8 (by kernel_rfl) ?_
 obtain⟨wd,hWd⟩:∃x:World,x=wo3.drew:=⟨_,rfl⟩
 rw [←hWd]
 have GD:Grow wo3 wd:=by rw [hWd];exact(Grow.refl _).drew
 have zD:wo3.heap.size=wd.heap.size:=by rw [hWd];rfl
 have ZD:=η zD
 clear hWd zD
 refine bLm [1,2,4] 12 (by kernel_rfl) (fun _ _ _ _ _ h=>h) (HS.o _ GD) ?_
 repeat (refine tNm (v:=?_) rfl (by rfl) ?_ ?_;rotate_left;(· (intro w' hSw;(try dsimp only at hSw);obtain⟨hs0,hs1,hs2,hs3,hs4⟩:=hSw;go_simp<;>with_reducible rfl));try simp only [Act.put,lzA,lzB,lzC,lzD,lzE,lzF])
 refine tEm ?_
 refine bP 0 5 (by kernel_rfl) rfl rfl ?_ ?_
 ·intro K HK
  try simp only [lzA,lzC]
  go_simp
  refine HK.o _ _ ⟨fun _=>HS.o _ (GD.alloc _),?_⟩
  clear HK K
  try simp only [Act.put,lzA,lzB,lzC,lzD,lzE,lzF]
  refine bP 3 5 (by kernel_rfl) rfl rfl ?_ ?_
  ·intro K HK
   refine wanted_go rfl ?_
   try simp only [lzA,lzB,lzC]
   refine wp_appc (l:=[]) (m:=h.opn) (v:=.slice (some ⟨wd.heap.size,0,none⟩) 0 0) ei_opn rfl one_Topn (by decide) (.tmp 26) (.tmp 28) rfl rfl ((OwnC.made0 Ty.opn c _ wo3.heap.size _ (by have:=ZD.o;(try simp);omega) (by simp))) rfl (HSRC.o _ (GD.alloc _)) (by have:=HL12.o;simp;omega) (GD.alloc _).size ?_
   intro a3 c3 q3 ho3 hg3 hb3
   try simp only [List.length_nil,Nat.zero_add,List.nil_append] at ho3
   try simp only [List.length_nil,Nat.zero_add] at hb3
   try simp only [List.length_nil,Nat.zero_add]
   have G3:=grow_by (w0:=wo3) (GD.alloc _) hg3 (own_at (by have:=ZD.o;(try simp);omega))
   have B3:=η (own_new (B:=wo3.heap.size) (GD.alloc _).size hb3 (own_at (by have:=ZD.o;(try simp);omega)))
   have HO3:=η ho3
   have HG3:=η hg3
   clear ho3 hg3 hb3
   refine HK.o _ _ ⟨fun _=>HS.o _ G3,?_⟩
   clear HK K
   try simp only [Act.put,lzD,lzE,lzF]
   refine bO 5 (by kernel_rfl) rfl ?_
   intro K HK
   try simp only [lzA,lzB,lzC]
   go_simp
   refine HK.o _ _ ⟨fun _=>HS.o _ (G3.alloc _),?_⟩
   clear HK K
   try simp only [Act.put,lzA,lzB,lzC,lzD,lzE,lzF]
   refine bO 6 (by kernel_rfl) rfl ?_
   intro K HK
   refine wanted_go rfl ?_
   try simp only [lzA,lzB,lzC]
   refine wp_appc (l:=h.opn) (m:=[⟨dd,P,false,[]⟩]) (v:=.slice a3 (h.opn.length) c3) ei_opn rfl one_Topn (by decide) (.tmp 29) (.tmp 31) rfl rfl ((HO3.o).grow ((Grow.refl _).alloc _)) rfl ((Src.of_new (T:=Ty.opn) (x:=⟨dd,P,false,[]⟩) (c:=c) (cs:=#[.int .i64 dd,.slice ap P.length cp,.bool false,.slice none 0 0]) HRO.o _ _ (by simp))) (by have:=HL12.o;simp;omega) (G3.alloc _).size ?_
   intro a6 c6 q6 ho6 hg6 hb6
   try simp only [List.length_nil,List.length_cons,Nat.zero_add] at ho6
   try simp only [List.length_nil,List.length_cons,Nat.zero_add] at hb6
   try simp only [List.length_nil,List.length_cons,Nat.zero_add]
   have G6:=grow_by (w0:=wo3) (G3.alloc _) hg6 B3.o
   have B6:=η (own_new (B:=wo3.heap.size) (G3.alloc _).size hb6 B3.o)
   have HO6:=η ho6
   have HG6:=η hg6
   clear ho6 hg6 hb6
   refine HK.o _ _ ⟨fun _=>HS.o _ G6,?_⟩
   clear HK K
   try simp only [Act.put,lzD,lzE,lzF]
   refine bO 7 (by kernel_rfl) rfl ?_
   intro K HK
   try simp only [lzA,lzB,lzC]
   go_simp
   refine HK.o _ _ ⟨fun _=>HS.o _ G6,?_⟩
   clear HK K
   try simp only [Act.put,lzA,lzB,lzC,lzD,lzE,lzF]
   refine bO 8 (by kernel_rfl) rfl ?_
   intro K HK
   refine wanted_go rfl ?_
   try simp only [lzA,lzB,lzC]
   refine wp_store_cell (.tmp 33) (.tmp 32) (v:=.slice a6 (h.opn.length+1) c6) (new:=#[.slice al h.log.length cl,.int .i64 h.boot,.int .i64 h.next,.slice a6 (h.opn.length+1) c6]) rfl rfl (by rfl) (by rfl) (row_grow R13.o G6) info_opns (by simp) (by rfl) (by rfl) ?_
   intro w8 r8 g8
   have HR8:=η r8
   have HG8:=η g8
   have HO8:=η (HO6.o.kept g8 (own_apart HO6.o (by have:=HZ3.o;omega)))
   have GG6:=η G6
   clear r8 g8
   refine HK.o _ _ ⟨fun h=>absurd rfl h,?_⟩
   clear HK K
   try simp only [Act.put]
   refine but_done (by kernel_rfl) ?_
   go_upto_region 5 with fail
   have G8:=η ((GW3.o.trans GG6.o).grown HG8.o (fun q hq=>by simp at hq;omega))
   have R28:=η (row_by (row_grow R23.o GG6.o) HG8.o (by intro e;have:=Option.some.inj e;omega))
   have R78:=η (row_by (row_grow R7.o GG6.o) HG8.o (by intro e;have:=Option.some.inj e;omega))
   obtain⟨c0,c1,c2,c3⟩:=cells4 HR8.o
   have z8:w.heap.size<w8.heap.size:=(γ HR8.o)
   go_wp2_with (first|(refine wpList_store_cell rfl (.tmp 37) (.tmp 36) (v:=.int .i64 (h.next+1)) (new:=#[.slice al h.log.length cl,.int .i64 h.boot,.int .i64 (h.next+1),.slice a6 (h.opn.length+1) c6]) rfl rfl (by rfl) (by rfl) HR8.o info_int1 (by simp) (by rfl) (by rfl) ?_))
   intro w9 r9 g9
   have R9:=η r9
   have G9:=η (G8.o.grown g9 (fun q hq=>by simp at hq;omega))
   have R29:=η (row_by R28.o g9 (by intro e;have:=Option.some.inj e;omega))
   have R79:=η (row_by R78.o g9 (by intro e;have:=Option.some.inj e;omega))
   have HO9:=η (HO8.o.kept g9 (own_apart HO8.o (by have:=HZ3.o;omega)))
   clear r9 g9 c0 c1 c2 c3
   have HAS:=η (fun(W:World) (hW:Grow w9 W)=>ref_asks (v:=.agg #[.int .i64 dd,.slice ap P.length cp,.bool false,.slice none 0 0]) (o:=⟨dd,P,false,[]⟩) W ⟨_,rfl,_,_,rfl,HDI.o,HPG.o.mono (HC.o.trans (G9.o.trans hW).sub),Sl.nil _ _⟩ (by show P.length*24≤_;omega))
   have HS9:Hid (∀W,Grow w9 W→W.cell? ⟨w.heap.size,0,none⟩=some (.slice al h.log.length cl)∧W.cell? ⟨w.heap.size,1,none⟩=some (.int .i64 h.boot)∧W.cell? ⟨w.heap.size,2,none⟩=some (.int .i64 (h.next+1))∧W.cell? ⟨w.heap.size,3,none⟩=some (.slice a6 (h.opn.length+1) c6)∧W.cell? ⟨w.heap.size+2,0,none⟩=some (.int .i64 dd)∧W.cell? ⟨w.heap.size+2,1,none⟩=some (.slice ap P.length cp)∧W.cell? ⟨w.heap.size+2,2,none⟩=some (.bool false)∧W.cell? ⟨w.heap.size+2,3,none⟩=some (.slice none 0 0)):=fun W hW=>by
    obtain⟨k0,k1,k2,k3⟩:=cells4 (row_grow R9.o hW)
    obtain⟨j0,j1,j2,j3⟩:=cells4 (row_grow R79.o hW)
    exact⟨k0,k1,k2,k3,j0,j1,j2,j3⟩
   go_upto_region 6 with fail
   refine but_start (fun w'=>w'.cell? ⟨w.heap.size,0,none⟩=some (.slice al h.log.length cl)∧w'.cell? ⟨w.heap.size,1,none⟩=some (.int .i64 h.boot)∧w'.cell? ⟨w.heap.size,2,none⟩=some (.int .i64 (h.next+1))∧w'.cell? ⟨w.heap.size,3,none⟩=some (.slice a6 (h.opn.length+1) c6)∧w'.cell? ⟨w.heap.size+2,0,none⟩=some (.int .i64 dd)∧w'.cell? ⟨w.heap.size+2,1,none⟩=some (.slice ap P.length cp)∧w'.cell? ⟨w.heap.size+2,2,none⟩=some (.bool false)∧w'.cell? ⟨w.heap.size+2,3,none⟩=some (.slice none 0 0)) 5 (by kernel_rfl) ?_
   obtain⟨we,hWd⟩:∃x:World,x=w9.drew:=⟨_,rfl⟩
   rw [←hWd]
   have GE:Grow w9 we:=by rw [hWd];exact(Grow.refl _).drew
   have zD:w9.heap.size=we.heap.size:=by rw [hWd];rfl
   have ZD:=η zD
   clear hWd zD
   have ZE6:Hid (w9.heap.size≤we.heap.size):=η GE.size
   refine bLm [0] 8 (by kernel_rfl) (fun _ _ _ _ _ h=>h) (HS9.o _ GE) ?_
   repeat (refine tNm (v:=?_) rfl (by rfl) ?_ ?_;rotate_left;(· (intro w' hSw;(try dsimp only at hSw);obtain⟨hs0,hs1,hs2,hs3,hs4,hs5,hs6,hs7⟩:=hSw;go_simp<;>with_reducible rfl));try simp only [Act.put,lzA,lzC,lzD,lzE,lzF])
   refine tEm ?_
   refine bLm [1] 8 (by kernel_rfl) (fun _ _ _ _ _ h=>h) (HS9.o _ GE) ?_
   repeat (refine tNm (v:=?_) rfl (by rfl) ?_ ?_;rotate_left;(· (intro w' hSw;(try dsimp only at hSw);obtain⟨hs0,hs1,hs2,hs3,hs4,hs5,hs6,hs7⟩:=hSw;go_simp<;>with_reducible rfl));try simp only [Act.put,lzA,lzB,lzC,lzD,lzE,lzF])
   refine tEm ?_
   refine bO 2 (by kernel_rfl) rfl ?_
   intro K HK
   try simp only [lzA,lzB,lzC]
   go_simp
   go_at_call 155
   refine(HAS.o _ GE).mono ?_
   rintro e10 w10 ⟨v10,rfl,ho10,hb10⟩
   obtain⟨a10,c10,rfl⟩:=ho10.form
   have HO10:=η ho10
   have G10:=η (Grow.trans GE hb10)
   clear ho10 hb10
   generalize hqa:asksE ⟨dd,P,false,[]⟩=qa at*
   have HQA:=η hqa
   clear hqa
   refine HK.o _ _ ⟨fun _=>HS9.o _ G10.o,?_⟩
   clear HK K
   try simp only [Act.put,lzA,lzB,lzC,lzD,lzE,lzF]
   refine bO 3 (by kernel_rfl) rfl ?_
   intro K HK
   refine wanted_go rfl ?_
   try simp only [lzA,lzB,lzC]
   refine wp_store_row (.tmp 4) (.tmp 38) rfl rfl rfl (row_grow R29.o G10.o) info_hd rfl rfl ?_
   intro w7 r7 g7
   have HR7:=η r7
   have HG7:=η g7
   clear r7 g7
   have HS7:Hid (w7.cell? ⟨w.heap.size,0,none⟩=some (.slice al h.log.length cl)∧w7.cell? ⟨w.heap.size,1,none⟩=some (.int .i64 h.boot)∧w7.cell? ⟨w.heap.size,2,none⟩=some (.int .i64 (h.next+1))∧w7.cell? ⟨w.heap.size,3,none⟩=some (.slice a6 (h.opn.length+1) c6)∧w7.cell? ⟨w.heap.size+2,0,none⟩=some (.int .i64 dd)∧w7.cell? ⟨w.heap.size+2,1,none⟩=some (.slice ap P.length cp)∧w7.cell? ⟨w.heap.size+2,2,none⟩=some (.bool false)∧w7.cell? ⟨w.heap.size+2,3,none⟩=some (.slice none 0 0)):=η (by obtain⟨k0,k1,k2,k3,k4,k5,k6,k7⟩:=HS9.o _ G10.o;exact⟨cell_past k0 HG7.o (by show w.heap.size≠_;omega),cell_past k1 HG7.o (by show w.heap.size≠_;omega),cell_past k2 HG7.o (by show w.heap.size≠_;omega),cell_past k3 HG7.o (by show w.heap.size≠_;omega),cell_past k4 HG7.o (by show w.heap.size+2≠_;omega),cell_past k5 HG7.o (by show w.heap.size+2≠_;omega),cell_past k6 HG7.o (by show w.heap.size+2≠_;omega),cell_past k7 HG7.o (by show w.heap.size+2≠_;omega)⟩)
   refine HK.o _ _ ⟨fun _=>HS7.o,?_⟩
   clear HK K
   try simp only [Act.put]
   refine bO 4 (by kernel_rfl) rfl ?_
   intro K HK
   try simp only [lzA,lzB,lzC]
   go_simp
   refine HK.o _ _ ⟨fun _=>HS7.o,?_⟩
   clear HK K
   try simp only [Act.put,lzA,lzB,lzC,lzD,lzE,lzF]
   refine bO 5 (by kernel_rfl) rfl ?_
   intro K HK
   try simp only [lzA,lzB,lzC]
   go_simp
   refine HK.o _ _ ⟨fun h=>absurd rfl h,?_⟩
   clear HK K
   try simp only [Act.put,lzA,lzB,lzC,lzD,lzE,lzF]
   refine but_done (by kernel_rfl) ?_
   obtain⟨p0,p1,p2,p3⟩:=cells4 HR7.o
   go_wp2
   refine bodyPost_ret (v:=.tuple #[.agg #[.slice al h.log.length cl,.int .i64 h.boot,.int .i64 (h.next+1),.slice a6 (h.opn.length+1) c6],.slice a10 qa.length c10,.int .i64 0]) (by simp [results,Try.results111,go_sem,p0,p1,p2,p3]) rfl ?_
   have G7:=(G9.o.trans G10.o).grown HG7.o (fun q hq=>by simp at hq;omega)
   rw [HE1.o,HE2.o,HE3.o]
   refine⟨_,_,rfl,⟨_,rfl,_,_,rfl,HLG.o.mono (ov_in HC.o),HIB.o.1,HNI.o,?_⟩,?_,G7⟩
   ·have h9:=(HO9.o.grow G10.o).kept HG7.o (own_apart (HO9.o.grow G10.o) (by have:=HZ3.o;omega))
    have h8:=OwnC.slc (d:=ov c w w7) (by decide) h9 (ov_in HC.o) fun a ha=>ov_new (by have:=HZ3.o;omega)
    have e8:newO h P=⟨dd,P,false,[]⟩:=by unfold newO;rw [←HDD.o]
    rw [e8]
    exact h8
   ·rw [show newO h P=⟨dd,P,false,[]⟩ by unfold newO;rw [←HDD.o],HQA.o]
    refine OwnC.slc (d:=ov c w w7) (by decide) (HO10.o.kept HG7.o (own_apart HO10.o (by have:=(γ R79.o);have:=ZE6.o;omega))) (fun a v e=>?_) fun a ha=>ov_new (by have:=(γ R79.o);have:=ZE6.o;omega)
    unfold fr at e
    split at e
    ·cases e
    ·rename_i hn
     have h1:¬a.block<we.heap.size:=fun hx=>hn (.inl hx)
     have:=(γ R79.o)
     have:=ZE6.o
     rw [ov_new (by omega)]
     exact cell_past e HG7.o (by omega)
  ·intro K HK
   try simp only [lzA,lzB,lzC]
   go_simp
   refine HK.o _ _ ⟨fun _=>HS.o _ ((GD.alloc _).alloc _),?_⟩
   clear HK K
   try simp only [Act.put,lzA,lzB,lzC,lzD,lzE,lzF]
   refine bO 3 (by kernel_rfl) rfl ?_
   intro K HK
   refine wanted_go rfl ?_
   try simp only [lzA,lzB,lzC]
   refine wp_appc (l:=[]) (m:=h.opn) (v:=.slice (some ⟨wd.heap.size,0,none⟩) 0 0) ei_opn rfl one_Topn (by decide) (.tmp 26) (.tmp 28) rfl rfl (((OwnC.made0 Ty.opn c _ wo3.heap.size _ (by have:=ZD.o;(try simp);omega) (by simp))).grow ((Grow.refl _).alloc _)) rfl (HSRC.o _ ((GD.alloc _).alloc _)) (by have:=HL12.o;simp;omega) ((GD.alloc _).alloc _).size ?_
   intro a3 c3 q3 ho3 hg3 hb3
   try simp only [List.length_nil,Nat.zero_add,List.nil_append] at ho3
   try simp only [List.length_nil,Nat.zero_add] at hb3
   try simp only [List.length_nil,Nat.zero_add]
   have G3:=grow_by (w0:=wo3) ((GD.alloc _).alloc _) hg3 (own_at (by have:=ZD.o;(try simp);omega))
   have B3:=η (own_new (B:=wo3.heap.size) ((GD.alloc _).alloc _).size hb3 (own_at (by have:=ZD.o;(try simp);omega)))
   have HO3:=η ho3
   have HG3:=η hg3
   clear ho3 hg3 hb3
   refine HK.o _ _ ⟨fun _=>HS.o _ G3,?_⟩
   clear HK K
   try simp only [Act.put,lzD,lzE,lzF]
   refine bO 6 (by kernel_rfl) rfl ?_
   intro K HK
   refine wanted_go rfl ?_
   try simp only [lzA,lzB,lzC]
   refine wp_appc (l:=h.opn) (m:=[⟨dd,P,false,[]⟩]) (v:=.slice a3 (h.opn.length) c3) ei_opn rfl one_Topn (by decide) (.tmp 29) (.tmp 31) rfl rfl (HO3.o) rfl (((Src.of_new (T:=Ty.opn) (x:=⟨dd,P,false,[]⟩) (c:=c) (cs:=#[.int .i64 dd,.slice ap P.length cp,.bool false,.slice none 0 0]) HRO.o _ _ (by simp))).kept HG3.o (by simp [Value.ownBlock])) (by have:=HL12.o;simp;omega) G3.size ?_
   intro a6 c6 q6 ho6 hg6 hb6
   try simp only [List.length_nil,List.length_cons,Nat.zero_add] at ho6
   try simp only [List.length_nil,List.length_cons,Nat.zero_add] at hb6
   try simp only [List.length_nil,List.length_cons,Nat.zero_add]
   have G6:=grow_by (w0:=wo3) G3 hg6 B3.o
   have B6:=η (own_new (B:=wo3.heap.size) G3.size hb6 B3.o)
   have HO6:=η ho6
   have HG6:=η hg6
   clear ho6 hg6 hb6
   refine HK.o _ _ ⟨fun _=>HS.o _ G6,?_⟩
   clear HK K
   try simp only [Act.put,lzD,lzE,lzF]
   refine bO 7 (by kernel_rfl) rfl ?_
   intro K HK
   try simp only [lzA,lzB,lzC]
   go_simp
   refine HK.o _ _ ⟨fun _=>HS.o _ G6,?_⟩
   clear HK K
   try simp only [Act.put,lzA,lzB,lzC,lzD,lzE,lzF]
   refine bO 8 (by kernel_rfl) rfl ?_
   intro K HK
   refine wanted_go rfl ?_
   try simp only [lzA,lzB,lzC]
   refine wp_store_cell (.tmp 33) (.tmp 32) (v:=.slice a6 (h.opn.length+1) c6) (new:=#[.slice al h.log.length cl,.int .i64 h.boot,.int .i64 h.next,.slice a6 (h.opn.length+1) c6]) rfl rfl (by rfl) (by rfl) (row_grow R13.o G6) info_opns (by simp) (by rfl) (by rfl) ?_
   intro w8 r8 g8
   have HR8:=η r8
   have HG8:=η g8
   have HO8:=η (HO6.o.kept g8 (own_apart HO6.o (by have:=HZ3.o;omega)))
   have GG6:=η G6
   clear r8 g8
   refine HK.o _ _ ⟨fun h=>absurd rfl h,?_⟩
   clear HK K
   try simp only [Act.put]
   refine but_done (by kernel_rfl) ?_
   go_upto_region 5 with fail
   have G8:=η ((GW3.o.trans GG6.o).grown HG8.o (fun q hq=>by simp at hq;omega))
   have R28:=η (row_by (row_grow R23.o GG6.o) HG8.o (by intro e;have:=Option.some.inj e;omega))
   have R78:=η (row_by (row_grow R7.o GG6.o) HG8.o (by intro e;have:=Option.some.inj e;omega))
   obtain⟨c0,c1,c2,c3⟩:=cells4 HR8.o
   have z8:w.heap.size<w8.heap.size:=(γ HR8.o)
   go_wp2_with (first|(refine wpList_store_cell rfl (.tmp 37) (.tmp 36) (v:=.int .i64 (h.next+1)) (new:=#[.slice al h.log.length cl,.int .i64 h.boot,.int .i64 (h.next+1),.slice a6 (h.opn.length+1) c6]) rfl rfl (by rfl) (by rfl) HR8.o info_int1 (by simp) (by rfl) (by rfl) ?_))
   intro w9 r9 g9
   have R9:=η r9
   have G9:=η (G8.o.grown g9 (fun q hq=>by simp at hq;omega))
   have R29:=η (row_by R28.o g9 (by intro e;have:=Option.some.inj e;omega))
   have R79:=η (row_by R78.o g9 (by intro e;have:=Option.some.inj e;omega))
   have HO9:=η (HO8.o.kept g9 (own_apart HO8.o (by have:=HZ3.o;omega)))
   clear r9 g9 c0 c1 c2 c3
   have HAS:=η (fun(W:World) (hW:Grow w9 W)=>ref_asks (v:=.agg #[.int .i64 dd,.slice ap P.length cp,.bool false,.slice none 0 0]) (o:=⟨dd,P,false,[]⟩) W ⟨_,rfl,_,_,rfl,HDI.o,HPG.o.mono (HC.o.trans (G9.o.trans hW).sub),Sl.nil _ _⟩ (by show P.length*24≤_;omega))
   have HS9:Hid (∀W,Grow w9 W→W.cell? ⟨w.heap.size,0,none⟩=some (.slice al h.log.length cl)∧W.cell? ⟨w.heap.size,1,none⟩=some (.int .i64 h.boot)∧W.cell? ⟨w.heap.size,2,none⟩=some (.int .i64 (h.next+1))∧W.cell? ⟨w.heap.size,3,none⟩=some (.slice a6 (h.opn.length+1) c6)∧W.cell? ⟨w.heap.size+2,0,none⟩=some (.int .i64 dd)∧W.cell? ⟨w.heap.size+2,1,none⟩=some (.slice ap P.length cp)∧W.cell? ⟨w.heap.size+2,2,none⟩=some (.bool false)∧W.cell? ⟨w.heap.size+2,3,none⟩=some (.slice none 0 0)):=fun W hW=>by
    obtain⟨k0,k1,k2,k3⟩:=cells4 (row_grow R9.o hW)
    obtain⟨j0,j1,j2,j3⟩:=cells4 (row_grow R79.o hW)
    exact⟨k0,k1,k2,k3,j0,j1,j2,j3⟩
   go_upto_region 6 with fail
   refine but_start (fun w'=>w'.cell? ⟨w.heap.size,0,none⟩=some (.slice al h.log.length cl)∧w'.cell? ⟨w.heap.size,1,none⟩=some (.int .i64 h.boot)∧w'.cell? ⟨w.heap.size,2,none⟩=some (.int .i64 (h.next+1))∧w'.cell? ⟨w.heap.size,3,none⟩=some (.slice a6 (h.opn.length+1) c6)∧w'.cell? ⟨w.heap.size+2,0,none⟩=some (.int .i64 dd)∧w'.cell? ⟨w.heap.size+2,1,none⟩=some (.slice ap P.length cp)∧w'.cell? ⟨w.heap.size+2,2,none⟩=some (.bool false)∧w'.cell? ⟨w.heap.size+2,3,none⟩=some (.slice none 0 0)) 5 (by kernel_rfl) ?_
   obtain⟨we,hWd⟩:∃x:World,x=w9.drew:=⟨_,rfl⟩
   rw [←hWd]
   have GE:Grow w9 we:=by rw [hWd];exact(Grow.refl _).drew
   have zD:w9.heap.size=we.heap.size:=by rw [hWd];rfl
   have ZD:=η zD
   clear hWd zD
   have ZE6:Hid (w9.heap.size≤we.heap.size):=η GE.size
   refine bLm [0] 8 (by kernel_rfl) (fun _ _ _ _ _ h=>h) (HS9.o _ GE) ?_
   repeat (refine tNm (v:=?_) rfl (by rfl) ?_ ?_;rotate_left;(· (intro w' hSw;(try dsimp only at hSw);obtain⟨hs0,hs1,hs2,hs3,hs4,hs5,hs6,hs7⟩:=hSw;go_simp<;>with_reducible rfl));try simp only [Act.put,lzA,lzC,lzD,lzE,lzF])
   refine tEm ?_
   refine bLm [1] 8 (by kernel_rfl) (fun _ _ _ _ _ h=>h) (HS9.o _ GE) ?_
   repeat (refine tNm (v:=?_) rfl (by rfl) ?_ ?_;rotate_left;(· (intro w' hSw;(try dsimp only at hSw);obtain⟨hs0,hs1,hs2,hs3,hs4,hs5,hs6,hs7⟩:=hSw;go_simp<;>with_reducible rfl));try simp only [Act.put,lzA,lzB,lzC,lzD,lzE,lzF])
   refine tEm ?_
   refine bO 2 (by kernel_rfl) rfl ?_
   intro K HK
   try simp only [lzA,lzB,lzC]
   go_simp
   go_at_call 155
   refine(HAS.o _ GE).mono ?_
   rintro e10 w10 ⟨v10,rfl,ho10,hb10⟩
   obtain⟨a10,c10,rfl⟩:=ho10.form
   have HO10:=η ho10
   have G10:=η (Grow.trans GE hb10)
   clear ho10 hb10
   generalize hqa:asksE ⟨dd,P,false,[]⟩=qa at*
   have HQA:=η hqa
   clear hqa
   refine HK.o _ _ ⟨fun _=>HS9.o _ G10.o,?_⟩
   clear HK K
   try simp only [Act.put,lzA,lzB,lzC,lzD,lzE,lzF]
   refine bO 3 (by kernel_rfl) rfl ?_
   intro K HK
   refine wanted_go rfl ?_
   try simp only [lzA,lzB,lzC]
   refine wp_store_row (.tmp 4) (.tmp 38) rfl rfl rfl (row_grow R29.o G10.o) info_hd rfl rfl ?_
   intro w7 r7 g7
   have HR7:=η r7
   have HG7:=η g7
   clear r7 g7
   have HS7:Hid (w7.cell? ⟨w.heap.size,0,none⟩=some (.slice al h.log.length cl)∧w7.cell? ⟨w.heap.size,1,none⟩=some (.int .i64 h.boot)∧w7.cell? ⟨w.heap.size,2,none⟩=some (.int .i64 (h.next+1))∧w7.cell? ⟨w.heap.size,3,none⟩=some (.slice a6 (h.opn.length+1) c6)∧w7.cell? ⟨w.heap.size+2,0,none⟩=some (.int .i64 dd)∧w7.cell? ⟨w.heap.size+2,1,none⟩=some (.slice ap P.length cp)∧w7.cell? ⟨w.heap.size+2,2,none⟩=some (.bool false)∧w7.cell? ⟨w.heap.size+2,3,none⟩=some (.slice none 0 0)):=η (by obtain⟨k0,k1,k2,k3,k4,k5,k6,k7⟩:=HS9.o _ G10.o;exact⟨cell_past k0 HG7.o (by show w.heap.size≠_;omega),cell_past k1 HG7.o (by show w.heap.size≠_;omega),cell_past k2 HG7.o (by show w.heap.size≠_;omega),cell_past k3 HG7.o (by show w.heap.size≠_;omega),cell_past k4 HG7.o (by show w.heap.size+2≠_;omega),cell_past k5 HG7.o (by show w.heap.size+2≠_;omega),cell_past k6 HG7.o (by show w.heap.size+2≠_;omega),cell_past k7 HG7.o (by show w.heap.size+2≠_;omega)⟩)
   refine HK.o _ _ ⟨fun _=>HS7.o,?_⟩
   clear HK K
   try simp only [Act.put]
   refine bO 4 (by kernel_rfl) rfl ?_
   intro K HK
   try simp only [lzA,lzB,lzC]
   go_simp
   refine HK.o _ _ ⟨fun _=>HS7.o,?_⟩
   clear HK K
   try simp only [Act.put,lzA,lzB,lzC,lzD,lzE,lzF]
   refine bO 5 (by kernel_rfl) rfl ?_
   intro K HK
   try simp only [lzA,lzB,lzC]
   go_simp
   refine HK.o _ _ ⟨fun h=>absurd rfl h,?_⟩
   clear HK K
   try simp only [Act.put,lzA,lzB,lzC,lzD,lzE,lzF]
   refine but_done (by kernel_rfl) ?_
   obtain⟨p0,p1,p2,p3⟩:=cells4 HR7.o
   go_wp2
   refine bodyPost_ret (v:=.tuple #[.agg #[.slice al h.log.length cl,.int .i64 h.boot,.int .i64 (h.next+1),.slice a6 (h.opn.length+1) c6],.slice a10 qa.length c10,.int .i64 0]) (by simp [results,Try.results111,go_sem,p0,p1,p2,p3]) rfl ?_
   have G7:=(G9.o.trans G10.o).grown HG7.o (fun q hq=>by simp at hq;omega)
   rw [HE1.o,HE2.o,HE3.o]
   refine⟨_,_,rfl,⟨_,rfl,_,_,rfl,HLG.o.mono (ov_in HC.o),HIB.o.1,HNI.o,?_⟩,?_,G7⟩
   ·have h9:=(HO9.o.grow G10.o).kept HG7.o (own_apart (HO9.o.grow G10.o) (by have:=HZ3.o;omega))
    have h8:=OwnC.slc (d:=ov c w w7) (by decide) h9 (ov_in HC.o) fun a ha=>ov_new (by have:=HZ3.o;omega)
    have e8:newO h P=⟨dd,P,false,[]⟩:=by unfold newO;rw [←HDD.o]
    rw [e8]
    exact h8
   ·rw [show newO h P=⟨dd,P,false,[]⟩ by unfold newO;rw [←HDD.o],HQA.o]
    refine OwnC.slc (d:=ov c w w7) (by decide) (HO10.o.kept HG7.o (own_apart HO10.o (by have:=(γ R79.o);have:=ZE6.o;omega))) (fun a v e=>?_) fun a ha=>ov_new (by have:=(γ R79.o);have:=ZE6.o;omega)
    unfold fr at e
    split at e
    ·cases e
    ·rename_i hn
     have h1:¬a.block<we.heap.size:=fun hx=>hn (.inl hx)
     have:=(γ R79.o)
     have:=ZE6.o
     rw [ov_new (by omega)]
     exact cell_past e HG7.o (by omega)
 ·intro K HK
  try simp only [lzA,lzB,lzC]
  go_simp
  refine HK.o _ _ ⟨fun _=>HS.o _ (GD.alloc _),?_⟩
  clear HK K
  try simp only [Act.put,lzA,lzB,lzC,lzD,lzE,lzF]
  refine bO 0 (by kernel_rfl) rfl ?_
  intro K HK
  try simp only [lzA,lzC]
  go_simp
  refine HK.o _ _ ⟨fun _=>HS.o _ ((GD.alloc _).alloc _),?_⟩
  clear HK K
  try simp only [Act.put,lzA,lzB,lzC,lzD,lzE,lzF]
  refine bO 3 (by kernel_rfl) rfl ?_
  intro K HK
  refine wanted_go rfl ?_
  try simp only [lzA,lzB,lzC]
  refine wp_appc (l:=[]) (m:=h.opn) (v:=.slice (some ⟨wd.heap.size+1,0,none⟩) 0 0) ei_opn rfl one_Topn (by decide) (.tmp 26) (.tmp 28) rfl rfl ((OwnC.made0 Ty.opn c _ wo3.heap.size _ (by have:=ZD.o;(try simp);omega) (by simp))) rfl (HSRC.o _ ((GD.alloc _).alloc _)) (by have:=HL12.o;simp;omega) ((GD.alloc _).alloc _).size ?_
  intro a3 c3 q3 ho3 hg3 hb3
  try simp only [List.length_nil,Nat.zero_add,List.nil_append] at ho3
  try simp only [List.length_nil,Nat.zero_add] at hb3
  try simp only [List.length_nil,Nat.zero_add]
  have G3:=grow_by (w0:=wo3) ((GD.alloc _).alloc _) hg3 (own_at (by have:=ZD.o;(try simp);omega))
  have B3:=η (own_new (B:=wo3.heap.size) ((GD.alloc _).alloc _).size hb3 (own_at (by have:=ZD.o;(try simp);omega)))
  have HO3:=η ho3
  have HG3:=η hg3
  clear ho3 hg3 hb3
  refine HK.o _ _ ⟨fun _=>HS.o _ G3,?_⟩
  clear HK K
  try simp only [Act.put,lzD,lzE,lzF]
  refine bO 6 (by kernel_rfl) rfl ?_
  intro K HK
  refine wanted_go rfl ?_
  try simp only [lzA,lzB,lzC]
  refine wp_appc (l:=h.opn) (m:=[⟨dd,P,false,[]⟩]) (v:=.slice a3 (h.opn.length) c3) ei_opn rfl one_Topn (by decide) (.tmp 29) (.tmp 31) rfl rfl (HO3.o) rfl ((((Src.of_new (T:=Ty.opn) (x:=⟨dd,P,false,[]⟩) (c:=c) (cs:=#[.int .i64 dd,.slice ap P.length cp,.bool false,.slice none 0 0]) HRO.o _ _ (by simp))).grow ((Grow.refl _).alloc _)).kept HG3.o (by simp [Value.ownBlock])) (by have:=HL12.o;simp;omega) G3.size ?_
  intro a6 c6 q6 ho6 hg6 hb6
  try simp only [List.length_nil,List.length_cons,Nat.zero_add] at ho6
  try simp only [List.length_nil,List.length_cons,Nat.zero_add] at hb6
  try simp only [List.length_nil,List.length_cons,Nat.zero_add]
  have G6:=grow_by (w0:=wo3) G3 hg6 B3.o
  have B6:=η (own_new (B:=wo3.heap.size) G3.size hb6 B3.o)
  have HO6:=η ho6
  have HG6:=η hg6
  clear ho6 hg6 hb6
  refine HK.o _ _ ⟨fun _=>HS.o _ G6,?_⟩
  clear HK K
  try simp only [Act.put,lzD,lzE,lzF]
  refine bO 7 (by kernel_rfl) rfl ?_
  intro K HK
  try simp only [lzA,lzB,lzC]
  go_simp
  refine HK.o _ _ ⟨fun _=>HS.o _ G6,?_⟩
  clear HK K
  try simp only [Act.put,lzA,lzB,lzC,lzD,lzE,lzF]
  refine bO 8 (by kernel_rfl) rfl ?_
  intro K HK
  refine wanted_go rfl ?_
  try simp only [lzA,lzB,lzC]
  refine wp_store_cell (.tmp 33) (.tmp 32) (v:=.slice a6 (h.opn.length+1) c6) (new:=#[.slice al h.log.length cl,.int .i64 h.boot,.int .i64 h.next,.slice a6 (h.opn.length+1) c6]) rfl rfl (by rfl) (by rfl) (row_grow R13.o G6) info_opns (by simp) (by rfl) (by rfl) ?_
  intro w8 r8 g8
  have HR8:=η r8
  have HG8:=η g8
  have HO8:=η (HO6.o.kept g8 (own_apart HO6.o (by have:=HZ3.o;omega)))
  have GG6:=η G6
  clear r8 g8
  refine HK.o _ _ ⟨fun h=>absurd rfl h,?_⟩
  clear HK K
  try simp only [Act.put]
  refine but_done (by kernel_rfl) ?_
  go_upto_region 5 with fail
  have G8:=η ((GW3.o.trans GG6.o).grown HG8.o (fun q hq=>by simp at hq;omega))
  have R28:=η (row_by (row_grow R23.o GG6.o) HG8.o (by intro e;have:=Option.some.inj e;omega))
  have R78:=η (row_by (row_grow R7.o GG6.o) HG8.o (by intro e;have:=Option.some.inj e;omega))
  obtain⟨c0,c1,c2,c3⟩:=cells4 HR8.o
  have z8:w.heap.size<w8.heap.size:=(γ HR8.o)
  go_wp2_with (first|(refine wpList_store_cell rfl (.tmp 37) (.tmp 36) (v:=.int .i64 (h.next+1)) (new:=#[.slice al h.log.length cl,.int .i64 h.boot,.int .i64 (h.next+1),.slice a6 (h.opn.length+1) c6]) rfl rfl (by rfl) (by rfl) HR8.o info_int1 (by simp) (by rfl) (by rfl) ?_))
  intro w9 r9 g9
  have R9:=η r9
  have G9:=η (G8.o.grown g9 (fun q hq=>by simp at hq;omega))
  have R29:=η (row_by R28.o g9 (by intro e;have:=Option.some.inj e;omega))
  have R79:=η (row_by R78.o g9 (by intro e;have:=Option.some.inj e;omega))
  have HO9:=η (HO8.o.kept g9 (own_apart HO8.o (by have:=HZ3.o;omega)))
  clear r9 g9 c0 c1 c2 c3
  have HAS:=η (fun(W:World) (hW:Grow w9 W)=>ref_asks (v:=.agg #[.int .i64 dd,.slice ap P.length cp,.bool false,.slice none 0 0]) (o:=⟨dd,P,false,[]⟩) W ⟨_,rfl,_,_,rfl,HDI.o,HPG.o.mono (HC.o.trans (G9.o.trans hW).sub),Sl.nil _ _⟩ (by show P.length*24≤_;omega))
  have HS9:Hid (∀W,Grow w9 W→W.cell? ⟨w.heap.size,0,none⟩=some (.slice al h.log.length cl)∧W.cell? ⟨w.heap.size,1,none⟩=some (.int .i64 h.boot)∧W.cell? ⟨w.heap.size,2,none⟩=some (.int .i64 (h.next+1))∧W.cell? ⟨w.heap.size,3,none⟩=some (.slice a6 (h.opn.length+1) c6)∧W.cell? ⟨w.heap.size+2,0,none⟩=some (.int .i64 dd)∧W.cell? ⟨w.heap.size+2,1,none⟩=some (.slice ap P.length cp)∧W.cell? ⟨w.heap.size+2,2,none⟩=some (.bool false)∧W.cell? ⟨w.heap.size+2,3,none⟩=some (.slice none 0 0)):=fun W hW=>by
   obtain⟨k0,k1,k2,k3⟩:=cells4 (row_grow R9.o hW)
   obtain⟨j0,j1,j2,j3⟩:=cells4 (row_grow R79.o hW)
   exact⟨k0,k1,k2,k3,j0,j1,j2,j3⟩
  go_upto_region 6 with fail
  refine but_start (fun w'=>w'.cell? ⟨w.heap.size,0,none⟩=some (.slice al h.log.length cl)∧w'.cell? ⟨w.heap.size,1,none⟩=some (.int .i64 h.boot)∧w'.cell? ⟨w.heap.size,2,none⟩=some (.int .i64 (h.next+1))∧w'.cell? ⟨w.heap.size,3,none⟩=some (.slice a6 (h.opn.length+1) c6)∧w'.cell? ⟨w.heap.size+2,0,none⟩=some (.int .i64 dd)∧w'.cell? ⟨w.heap.size+2,1,none⟩=some (.slice ap P.length cp)∧w'.cell? ⟨w.heap.size+2,2,none⟩=some (.bool false)∧w'.cell? ⟨w.heap.size+2,3,none⟩=some (.slice none 0 0)) 5 (by kernel_rfl) ?_
  obtain⟨we,hWd⟩:∃x:World,x=w9.drew:=⟨_,rfl⟩
  rw [←hWd]
  have GE:Grow w9 we:=by rw [hWd];exact(Grow.refl _).drew
  have zD:w9.heap.size=we.heap.size:=by rw [hWd];rfl
  have ZD:=η zD
  clear hWd zD
  have ZE6:Hid (w9.heap.size≤we.heap.size):=η GE.size
  refine bLm [0] 8 (by kernel_rfl) (fun _ _ _ _ _ h=>h) (HS9.o _ GE) ?_
  repeat (refine tNm (v:=?_) rfl (by rfl) ?_ ?_;rotate_left;(· (intro w' hSw;(try dsimp only at hSw);obtain⟨hs0,hs1,hs2,hs3,hs4,hs5,hs6,hs7⟩:=hSw;go_simp<;>with_reducible rfl));try simp only [Act.put,lzA,lzC,lzD,lzE,lzF])
  refine tEm ?_
  refine bLm [1] 8 (by kernel_rfl) (fun _ _ _ _ _ h=>h) (HS9.o _ GE) ?_
  repeat (refine tNm (v:=?_) rfl (by rfl) ?_ ?_;rotate_left;(· (intro w' hSw;(try dsimp only at hSw);obtain⟨hs0,hs1,hs2,hs3,hs4,hs5,hs6,hs7⟩:=hSw;go_simp<;>with_reducible rfl));try simp only [Act.put,lzA,lzB,lzC,lzD,lzE,lzF])
  refine tEm ?_
  refine bO 2 (by kernel_rfl) rfl ?_
  intro K HK
  try simp only [lzA,lzB,lzC]
  go_simp
  go_at_call 155
  refine(HAS.o _ GE).mono ?_
  rintro e10 w10 ⟨v10,rfl,ho10,hb10⟩
  obtain⟨a10,c10,rfl⟩:=ho10.form
  have HO10:=η ho10
  have G10:=η (Grow.trans GE hb10)
  clear ho10 hb10
  generalize hqa:asksE ⟨dd,P,false,[]⟩=qa at*
  have HQA:=η hqa
  clear hqa
  refine HK.o _ _ ⟨fun _=>HS9.o _ G10.o,?_⟩
  clear HK K
  try simp only [Act.put,lzA,lzB,lzC,lzD,lzE,lzF]
  refine bO 3 (by kernel_rfl) rfl ?_
  intro K HK
  refine wanted_go rfl ?_
  try simp only [lzA,lzB,lzC]
  refine wp_store_row (.tmp 4) (.tmp 38) rfl rfl rfl (row_grow R29.o G10.o) info_hd rfl rfl ?_
  intro w7 r7 g7
  have HR7:=η r7
  have HG7:=η g7
  clear r7 g7
  have HS7:Hid (w7.cell? ⟨w.heap.size,0,none⟩=some (.slice al h.log.length cl)∧w7.cell? ⟨w.heap.size,1,none⟩=some (.int .i64 h.boot)∧w7.cell? ⟨w.heap.size,2,none⟩=some (.int .i64 (h.next+1))∧w7.cell? ⟨w.heap.size,3,none⟩=some (.slice a6 (h.opn.length+1) c6)∧w7.cell? ⟨w.heap.size+2,0,none⟩=some (.int .i64 dd)∧w7.cell? ⟨w.heap.size+2,1,none⟩=some (.slice ap P.length cp)∧w7.cell? ⟨w.heap.size+2,2,none⟩=some (.bool false)∧w7.cell? ⟨w.heap.size+2,3,none⟩=some (.slice none 0 0)):=η (by obtain⟨k0,k1,k2,k3,k4,k5,k6,k7⟩:=HS9.o _ G10.o;exact⟨cell_past k0 HG7.o (by show w.heap.size≠_;omega),cell_past k1 HG7.o (by show w.heap.size≠_;omega),cell_past k2 HG7.o (by show w.heap.size≠_;omega),cell_past k3 HG7.o (by show w.heap.size≠_;omega),cell_past k4 HG7.o (by show w.heap.size+2≠_;omega),cell_past k5 HG7.o (by show w.heap.size+2≠_;omega),cell_past k6 HG7.o (by show w.heap.size+2≠_;omega),cell_past k7 HG7.o (by show w.heap.size+2≠_;omega)⟩)
  refine HK.o _ _ ⟨fun _=>HS7.o,?_⟩
  clear HK K
  try simp only [Act.put]
  refine bO 4 (by kernel_rfl) rfl ?_
  intro K HK
  try simp only [lzA,lzB,lzC]
  go_simp
  refine HK.o _ _ ⟨fun _=>HS7.o,?_⟩
  clear HK K
  try simp only [Act.put,lzA,lzB,lzC,lzD,lzE,lzF]
  refine bO 5 (by kernel_rfl) rfl ?_
  intro K HK
  try simp only [lzA,lzB,lzC]
  go_simp
  refine HK.o _ _ ⟨fun h=>absurd rfl h,?_⟩
  clear HK K
  try simp only [Act.put,lzA,lzB,lzC,lzD,lzE,lzF]
  refine but_done (by kernel_rfl) ?_
  obtain⟨p0,p1,p2,p3⟩:=cells4 HR7.o
  go_wp2
  refine bodyPost_ret (v:=.tuple #[.agg #[.slice al h.log.length cl,.int .i64 h.boot,.int .i64 (h.next+1),.slice a6 (h.opn.length+1) c6],.slice a10 qa.length c10,.int .i64 0]) (by simp [results,Try.results111,go_sem,p0,p1,p2,p3]) rfl ?_
  have G7:=(G9.o.trans G10.o).grown HG7.o (fun q hq=>by simp at hq;omega)
  rw [HE1.o,HE2.o,HE3.o]
  refine⟨_,_,rfl,⟨_,rfl,_,_,rfl,HLG.o.mono (ov_in HC.o),HIB.o.1,HNI.o,?_⟩,?_,G7⟩
  ·have h9:=(HO9.o.grow G10.o).kept HG7.o (own_apart (HO9.o.grow G10.o) (by have:=HZ3.o;omega))
   have h8:=OwnC.slc (d:=ov c w w7) (by decide) h9 (ov_in HC.o) fun a ha=>ov_new (by have:=HZ3.o;omega)
   have e8:newO h P=⟨dd,P,false,[]⟩:=by unfold newO;rw [←HDD.o]
   rw [e8]
   exact h8
  ·rw [show newO h P=⟨dd,P,false,[]⟩ by unfold newO;rw [←HDD.o],HQA.o]
   refine OwnC.slc (d:=ov c w w7) (by decide) (HO10.o.kept HG7.o (own_apart HO10.o (by have:=(γ R79.o);have:=ZE6.o;omega))) (fun a v e=>?_) fun a ha=>ov_new (by have:=(γ R79.o);have:=ZE6.o;omega)
   unfold fr at e
   split at e
   ·cases e
   ·rename_i hn
    have h1:¬a.block<we.heap.size:=fun hx=>hn (.inl hx)
    have:=(γ R79.o)
    have:=ZE6.o
    rw [ov_new (by omega)]
    exact cell_past e HG7.o (by omega)
def fc (c:CM) (W0 w:World) (X:List (Option Nat)):CM:=fun a=>if a.block<W0.heap.size then c a else fr W0 w X a
theorem fc_in {c:CM} {W0 w:World} {X:List (Option Nat)} (h:Sub c W0.cell?):Sub c (fc c W0 w X):=fun a v e=>by
 unfold fc
 rw [if_pos (World.block_lt_of_cell? W0 a (h _ _ e))];exact e
theorem fc_new {c:CM} {W0 w:World} {X:List (Option Nat)} {a:Addr} (h:W0.heap.size≤a.block) (hx:some a.block∉X):fc c W0 w X a=w.cell? a:=by
 unfold fc
 rw [if_neg (by omega),fr_new h hx]
theorem fc_step {c:CM} {W0 w w':World} {X X':List (Option Nat)} (h:∀k,k<w.heap.size→W0.heap.size≤k→some k∉X→w'.heap[k]? =w.heap[k]?∧some k∉X'):Sub (fc c W0 w X) (fc c W0 w' X'):=fun a v e=>by
 unfold fc at e ⊢
 split at e
 ·rw [if_pos ‹_›];exact e
 ·rw [if_neg ‹_›];exact fr_step h a v e
theorem fc_grow {c:CM} {W0 w w':World} {X:List (Option Nat)} (h:Grow w w'):Sub (fc c W0 w X) (fc c W0 w' X):=fc_step fun k hk _ hx=>⟨h.block k hk,hx⟩
theorem fc_app {c:CM} {W0 w w':World} {v v':Value} (hg:w.grownBy w' v.ownBlock) (hb:v'.ownBlock=v.ownBlock∨∃g,v'.ownBlock=some g∧w.heap.size≤g):Sub (fc c W0 w [v.ownBlock]) (fc c W0 w' [v'.ownBlock]):=
 fc_step fun k hk _ hx=>by
  simp only [List.mem_singleton] at hx
  refine⟨hg.block k hk hx,?_⟩
  simp only [List.mem_singleton]
  intro e
  rcases hb with hb|⟨g,hb,hge⟩
  ·exact hx (e.trans hb)
  ·have:=Option.some.inj (e.trans hb)
   omega
theorem fc_box {c:CM} {W0 w w':World} {B:Nat} {X:List (Option Nat)} (hg:w.grownBy w' (some B)) (hB:B<W0.heap.size):Sub (fc c W0 w X) (fc c W0 w' X):=
 fc_step fun k hk h0 hx=>⟨hg.block k hk (fun e=>by have:=Option.some.inj e;omega),hx⟩
theorem fc_end {c:CM} {w W0 W w':World} {B:Nat} {X:List (Option Nat)} (hc:Sub c w.cell?) (h0:Grow w W0) (hg:W.grownBy w' (some B)) (hB:B<W0.heap.size):Sub (fc c W0 W X) (ov c w w'):=fun a v e=>by
 have e2:=fc_box hg hB a v e
 have hs:=h0.size
 unfold fc at e2
 unfold ov
 split at e2
 ·rw [if_pos (World.block_lt_of_cell? w a (hc _ _ e2))];exact e2
 ·rw [if_neg (by omega)];exact fr_sub _ _ _ _ _ e2
theorem hgo_fresh (m:Ms):∀(l:List Opn) (s:HGo),(s.known=false→s.recs=[]∧s.says=[])→(l.foldl (hgoStep m) s).known=false→(l.foldl (hgoStep m) s).recs=[]∧(l.foldl (hgoStep m) s).says=[]
 | [],s,h=>h
 |o::l,s,h=>by
  rw [List.foldl_cons]
  refine hgo_fresh m l _ fun hk=>?_
  unfold hgoStep at hk ⊢
  split at hk
  ·cases hk
  ·rename_i hn
   rw [if_neg hn]
   exact h hk
theorem hgo_few (m:Ms):∀(l:List Opn) (s:HGo),s.recs.length≤1→(l.foldl (hgoStep m) s).recs.length≤1
 | [],s,h=>h
 |o::l,s,h=>by
  rw [List.foldl_cons]
  refine hgo_few m l _ ?_
  unfold hgoStep
  split
  ·show(hearO o m).2.1.length≤1
   unfold hearO
   split
   ·split<;>simp
   ·split
    ·simp
    ·split
     ·split<;>simp
     ·split<;>simp
  ·exact h
theorem hgo_past {m:Ms} {s:HGo} {o:Opn} (h:¬(o.deed=m.deed∧s.known=false)):hgoStep m s o={ s with opn:=s.opn++ [o] }:=by unfold hgoStep;rw [if_neg h]
theorem hgo_at {m:Ms} {s:HGo} {o:Opn} (h1:o.deed=m.deed) (h2:s.known=false):hgoStep m s o=⟨s.opn++(hearO o m).1,(hearO o m).2.1,(hearO o m).2.2,true⟩:=by unfold hgoStep;rw [if_pos ⟨h1,h2⟩]
def isNew (o:Opn) (m:Ms):Prop:=m.house∈housesE o.parts∧m.house∉o.heard
instance (o:Opn) (m:Ms):Decidable (isNew o m):=by unfold isNew;infer_instance
def allHeard (o:Opn):Bool:=decide (o.heard.length+1=(housesE o.parts).length)
theorem hearO_yesAll {o:Opn} {m:Ms} (h:m.kind=2∧o.dec=false∧isNew o m) (ha:allHeard o=true):hearO o m=([⟨o.deed,o.parts,true,[]⟩],[⟨5,o.deed,o.parts⟩],asksE ⟨o.deed,o.parts,true,[]⟩):=by
 unfold hearO
 rw [if_pos ⟨h.1,h.2.1,h.2.2.1,h.2.2.2⟩,if_pos (of_decide_eq_true ha)]
theorem hearO_yes {o:Opn} {m:Ms} (h:m.kind=2∧o.dec=false∧isNew o m) (ha:allHeard o=false):hearO o m=([⟨o.deed,o.parts,false,o.heard++ [m.house]⟩],[],[]):=by
 unfold hearO
 rw [if_pos ⟨h.1,h.2.1,h.2.2.1,h.2.2.2⟩,if_neg (of_decide_eq_false ha)]
 obtain⟨-,h2,-⟩:=h
 cases o;cases h2;rfl
theorem hearO_no {o:Opn} {m:Ms} (h1:¬(m.kind=2∧o.dec=false∧isNew o m)) (h:m.kind=3∧o.dec=false):hearO o m=([],[],abortsE o.deed o.parts):=by
 unfold hearO
 rw [if_neg (fun x=>h1 ⟨x.1,x.2.1,x.2.2.1,x.2.2.2⟩),if_pos h]
theorem hearO_ackAll {o:Opn} {m:Ms} (h1:¬(m.kind=2∧o.dec=false∧isNew o m)) (h2:¬(m.kind=3∧o.dec=false)) (h:m.kind=6∧o.dec=true∧isNew o m) (ha:allHeard o=true):hearO o m=([],[⟨6,o.deed,[]⟩],[]):=by
 unfold hearO
 rw [if_neg (fun x=>h1 ⟨x.1,x.2.1,x.2.2.1,x.2.2.2⟩),if_neg h2,if_pos ⟨h.1,h.2.1,h.2.2.1,h.2.2.2⟩,if_pos (of_decide_eq_true ha)]
theorem hearO_ack {o:Opn} {m:Ms} (h1:¬(m.kind=2∧o.dec=false∧isNew o m)) (h2:¬(m.kind=3∧o.dec=false)) (h:m.kind=6∧o.dec=true∧isNew o m) (ha:allHeard o=false):hearO o m=([⟨o.deed,o.parts,true,o.heard++ [m.house]⟩],[],[]):=by
 unfold hearO
 rw [if_neg (fun x=>h1 ⟨x.1,x.2.1,x.2.2.1,x.2.2.2⟩),if_neg h2,if_pos ⟨h.1,h.2.1,h.2.2.1,h.2.2.2⟩,if_neg (of_decide_eq_false ha)]
 obtain⟨-,h3,-⟩:=h
 cases o;cases h3;rfl
theorem hearO_ask {o:Opn} {m:Ms} (h1:¬(m.kind=2∧o.dec=false∧isNew o m)) (h2:¬(m.kind=3∧o.dec=false)) (h3:¬(m.kind=6∧o.dec=true∧isNew o m)) (h:m.kind=7∧o.dec=true):hearO o m=([o],[],[⟨4,m.deed,m.house,[]⟩]):=by
 unfold hearO
 rw [if_neg (fun x=>h1 ⟨x.1,x.2.1,x.2.2.1,x.2.2.2⟩),if_neg h2,if_neg (fun x=>h3 ⟨x.1,x.2.1,x.2.2.1,x.2.2.2⟩),if_pos h]
theorem hearO_else {o:Opn} {m:Ms} (h1:¬(m.kind=2∧o.dec=false∧isNew o m)) (h2:¬(m.kind=3∧o.dec=false)) (h3:¬(m.kind=6∧o.dec=true∧isNew o m)) (h:¬(m.kind=7∧o.dec=true)):hearO o m=([o],[],[]):=by
 unfold hearO
 rw [if_neg (fun x=>h1 ⟨x.1,x.2.1,x.2.2.1,x.2.2.2⟩),if_neg h2,if_neg (fun x=>h3 ⟨x.1,x.2.1,x.2.2.1,x.2.2.2⟩),if_neg h]
structure QBox (c:CM) (w wz wr:World) (h:Hd) (s:HGo) (vl vo vs:Value):Prop where
 row:wr.heap[w.heap.size+3]? =some (.cells #[vl,.int .i64 h.boot,.int .i64 h.next,vo] 57 (0,0))
 log:Sl Ty.rc (fc c wz wr [vo.ownBlock]) vl (h.log++s.recs)
 opn:OwnC Ty.opn (fc c wz wr [vo.ownBlock]) wr (w.heap.size+4) 136 vo s.opn
 says:Sl Ty.ms (fc c wz wr [vo.ownBlock]) vs s.says
 old:∀k,k<3→wr.heap[w.heap.size+k]? =wz.heap[w.heap.size+k]?
 grow:Grow w wr
 zsize:wz.heap.size=w.heap.size+4
theorem QBox.size {c:CM} {w wz wr:World} {h:Hd} {s:HGo} {vl vo vs:Value} (b:QBox c w wz wr h s vl vo vs):w.heap.size+4≤wr.heap.size:=by
 have:=(γ b.row)
 omega
theorem QBox.later {c:CM} {w wz wr W:World} {h:Hd} {s:HGo} {vl vo vs:Value} (b:QBox c w wz wr h s vl vo vs) (hg:Grow wr W):QBox c w wz W h s vl vo vs where
 row:=row_grow b.row hg
 log:=b.log.mono (fc_grow hg)
 opn:=(b.opn.mono (fc_grow hg)).grow hg
 says:=b.says.mono (fc_grow hg)
 old:=fun k hk=>by rw [hg.block _ (by have:=b.size;omega)];exact b.old k hk
 grow:=b.grow.trans hg
 zsize:=b.zsize
theorem QBox.setLog {c:CM} {w wz wr W:World} {h:Hd} {so:List Opn} {sr:List Rc} {ss:List Ms} {sk:Bool} {vl vo vs vl':Value} (b:QBox c w wz wr h ⟨so,sr,ss,sk⟩ vl vo vs) (recs:List Rc) (hg:wr.grownBy W (some (w.heap.size+3)))
  (r:W.heap[w.heap.size+3]? =some (.cells #[vl',.int .i64 h.boot,.int .i64 h.next,vo] 57 (0,0))) (hl:Sl Ty.rc (fc c wz wr [vo.ownBlock]) vl' (h.log++recs)):QBox c w wz W h ⟨so,recs,ss,sk⟩ vl' vo vs where
 row:=r
 log:=hl.mono (fc_box hg (by have:=b.zsize;omega))
 opn:=(b.opn.mono (fc_box hg (by have:=b.zsize;omega))).kept hg (own_apart b.opn (by omega))
 says:=b.says.mono (fc_box hg (by have:=b.zsize;omega))
 old:=fun k hk=>by rw [hg.block _ (by have:=b.size;omega) (fun e=>by have:=Option.some.inj e;omega)];exact b.old k hk
 grow:=b.grow.grown hg (fun q e=>by have:=Option.some.inj e;omega)
 zsize:=b.zsize
theorem QBox.app {c:CM} {w wz wr wl w9 W:World} {h:Hd} {so:List Opn} {sr:List Rc} {ss:List Ms} {sk:Bool} {vl vo vs v9:Value} (b:QBox c w wz wr h ⟨so,sr,ss,sk⟩ vl vo vs) (o:Opn) (hgl:Grow wr wl) (hg9:wl.grownBy w9 vo.ownBlock)
  (hb9:v9.ownBlock=vo.ownBlock∨∃g,v9.ownBlock=some g∧wl.heap.size≤g) (ho9:OwnC Ty.opn (fc c wz wr [vo.ownBlock]) w9 (w.heap.size+4) 136 v9 (so++ [o])) (hg:w9.grownBy W (some (w.heap.size+3)))
  (r:W.heap[w.heap.size+3]? =some (.cells #[vl,.int .i64 h.boot,.int .i64 h.next,v9] 57 (0,0))):QBox c w wz W h ⟨so++ [o],sr,ss,sk⟩ vl v9 vs:=by
 have hsz:=b.size
 have hz:=b.zsize
 have hm:Sub (fc c wz wr [vo.ownBlock]) (fc c wz W [v9.ownBlock]):=
  ((fc_grow hgl).trans (fc_app hg9 hb9)).trans (fc_box hg (by omega))
 have hvo:∀q,vo.ownBlock=some q→w.heap.size+4≤q:=fun q e=>(b.opn.lt q e).1
 refine⟨r,b.log.mono hm,(ho9.mono hm).kept hg (own_apart ho9 (by omega)),b.says.mono hm,fun k hk=>?_,?_,hz⟩
 ·rw [hg.block _ (by have:=hg9.size;have:=hgl.size;omega) (fun e=>by have:=Option.some.inj e;omega),hg9.block _ (by have:=hgl.size;omega) (fun e=>by have:=hvo _ e.symm;omega),hgl.block _ (by omega)]
  exact b.old k hk
 ·exact((b.grow.trans hgl).grown hg9 (fun q e=>by have:=hvo q e;omega)).grown hg (fun q e=>by have:=Option.some.inj e;omega)
theorem QBox.setSays {c:CM} {w wz W:World} {h:Hd} {so:List Opn} {sr:List Rc} {ss ss':List Ms} {sk:Bool} {vl vo vs vs':Value} (b:QBox c w wz W h ⟨so,sr,ss,sk⟩ vl vo vs) (hs:Sl Ty.ms (fc c wz W [vo.ownBlock]) vs' ss'):QBox c w wz W h ⟨so,sr,ss',true⟩ vl vo vs':=
 ⟨b.row,b.log,b.opn,hs,b.old,b.grow,b.zsize⟩
theorem QBox.zle {c:CM} {w wz W:World} {h:Hd} {s:HGo} {vl vo vs:Value} (b:QBox c w wz W h s vl vo vs):wz.heap.size≤W.heap.size:=by have:=b.zsize;have:=b.size;omega
theorem QBox.nx {c:CM} {w wz W:World} {h:Hd} {s:HGo} {vl vo vs:Value} (b:QBox c w wz W h s vl vo vs):∀k,W.heap.size≤k→some k∉ [vo.ownBlock]:=fun k hk=>by
 simp only [List.mem_singleton]
 intro e
 have:=(b.opn.lt k e.symm).2
 omega
theorem QBox.newSl {α:Type} {T:Ty α} (h0:0<T.size) {c d:CM} {w wz W W4:World} {h:Hd} {s:HGo} {vl vo vs v:Value} {e:Nat} {l:List α} (b:QBox c w wz W h s vl vo vs) (hd:Sub d (fc c wz W4 [vo.ownBlock])) (h4:OwnC T d W4 W.heap.size e v l):Sl T (fc c wz W4 [vo.ownBlock]) v l:=
 h4.slc h0 hd fun a ha=>fc_new (by have:=b.zle;omega) (b.nx _ ha)
theorem QBox.frSub {c:CM} {w wz W W4:World} {h:Hd} {s:HGo} {vl vo vs:Value} {Y:List (Option Nat)} (b:QBox c w wz W h s vl vo vs):Sub (fr W W4 Y) (fc c wz W4 [vo.ownBlock]):=fun a v e=>by
 unfold fr at e
 split at e
 ·cases e
 ·rename_i hn
  have h1:¬a.block<W.heap.size:=fun hx=>hn (.inl hx)
  rw [fc_new (by have:=b.zle;omega) (b.nx _ (by omega))]
  exact e
theorem info_ints:(Try.prog.info? 27).map (·.size)=some 1:=by kernel_rfl
theorem info_bool:(Try.prog.info? 4).map (·.size)=some 1:=by kernel_rfl
theorem info_rcs:(Try.prog.info? 22).map (·.size)=some 1:=by kernel_rfl
def hsCells0:List Value:=[.slice none 0 0,.int .i64 0,.int .i64 0,.int .i64 0,.int .i64 0,.slice none 0 0,.slice none 0 0]
theorem hs0_cells (c:CM):Ty.hs.R c hsCells0 hs0:=⟨_,_,_,rfl,Sl.nil _ _,zero_ok,zero_ok,zero_ok,zero_ok,Sl.nil _ _,Sl.nil _ _⟩
theorem make_houses {n:Nat} (h:1≤n∧n≤3):∃cs:Array Value,(∀w:World,(Instr.makeSlice 91 (.int .i64 n) (.int .i64 n)).run Try.prog w=.ok (.slice (some ⟨w.heap.size,0,none⟩) n n) (w.alloc (.cells cs 29)))∧
  ∀(w:World),OwnC Ty.hs (fun _=>none) (w.alloc (.cells cs 29)) w.heap.size 29 (.slice (some ⟨w.heap.size,0,none⟩) n n) (List.replicate n hs0):=by
 have key:∀(m:Nat) (cs:Array Value),m≤3→cs.toList=(List.replicate m hs0).flatMap (fun _=>hsCells0)→∀(w:World),OwnC Ty.hs (fun _=>none) (w.alloc (.cells cs 29)) w.heap.size 29 (.slice (some ⟨w.heap.size,0,none⟩) m m) (List.replicate m hs0):=by
  intro m cs hm hc w
  have h1:=World.ownsRow_lit (base:=w.heap.size) (e:=29) (size:=7) w cs m (Nat.le_refl _) (by unfold maxLen;omega) (by rw [←Array.length_toList,hc,flat_len (f:=fun _=>hsCells0) (size:=7) (fun _=>rfl)];simp)
  rw [hc] at h1
  exact OwnC.of_flat (T:=Ty.hs) (f:=fun _=>hsCells0) (c:=fun _=>none) (l:=List.replicate m hs0) (by rw [List.length_replicate];exact h1) (fun x hx=>by
   rw [List.eq_of_mem_replicate hx]
   exact hs0_cells _)
 obtain⟨h1,h2⟩:=h
 match n,h1,h2 with
 |1,_,_=>exact⟨hsCells0.toArray,fun w=>by kernel_rfl,key 1 _ (by decide) rfl⟩
 |2,_,_=>exact⟨(hsCells0++hsCells0).toArray,fun w=>by kernel_rfl,key 2 _ (by decide) rfl⟩
 |3,_,_=>exact⟨(hsCells0++hsCells0++hsCells0).toArray,fun w=>by kernel_rfl,key 3 _ (by decide) rfl⟩
theorem ei_hs:EI Try.prog 91 29 7 104:=EI.mk' (z:=.agg #[.slice none 0 0,.int .i64 0,.int .i64 0,.int .i64 0,.int .i64 0,.slice none 0 0,.slice none 0 0]) (by kernel_rfl) (by kernel_rfl) rfl (by decide) rfl
theorem info_wd:(Try.prog.info? 93).map (·.size)=some 6:=by kernel_rfl
theorem info_hss:(Try.prog.info? 91).map (·.size)=some 1:=by kernel_rfl
theorem info_nets:(Try.prog.info? 79).map (·.size)=some 1:=by kernel_rfl
set_option maxRecDepth 100000 in
set_option maxHeartbeats 4000000 in
theorem ref_with {c:CM} {v vh:Value} {x:AW} {h:Hs} {k:Nat} (w:World) (hc:Sub c w.cell?) (hv:Of Ty.wd c v x) (hh:Of Ty.hs c vh h) (hk:k<x.houses.length) (h3:x.houses.length≤3):
  Calls Try.prog 167 #[v,.int .i64 k,vh] w fun e w'=>∃v',e=.returned v'∧Of Ty.wd (ov c w w') v' { x with houses:=x.houses.set k h }∧Grow w w':=by
 obtain⟨al,cl,ao,co,ah,ch,an,cn,rfl⟩:=hv.wd_form
 obtain⟨al2,cl2,ar2,cr2,ad2,cd2,rfl⟩:=hh.hs_form
 obtain⟨q1,q2,q3⟩:=hv.wd_parts
 have HQ1:=η q1
 have HQ2:=η q2
 have HQ3:=η q3
 have HHR:Hid (Ty.hs.R c [.slice al2 h.log.length cl2,.int .i64 h.sums.a,.int .i64 h.sums.b,.int .i64 h.sums.c,.int .i64 h.sums.d,.slice ar2 h.ready.length cr2,.slice ad2 h.done.length cd2] h):=η (by obtain⟨cs,he,hr⟩:=hh;cases he;exact hr)
 have HC:=η hc
 clear hv hh q1 q2 q3 hc
 obtain⟨wa,hwa⟩:∃y:World,y=w.alloc (.cells #[.slice al x.head.log.length cl,.int .i64 x.head.boot,.int .i64 x.head.next,.slice ao x.head.opn.length co,.slice ah x.houses.length ch,.slice an x.net.length cn] 93):=⟨_,rfl⟩
 obtain⟨wb,hwb⟩:∃y:World,y=wa.alloc (.cells #[.slice al2 h.log.length cl2,.int .i64 h.sums.a,.int .i64 h.sums.b,.int .i64 h.sums.c,.int .i64 h.sums.d,.slice ar2 h.ready.length cr2,.slice ad2 h.done.length cd2] 29):=⟨_,rfl⟩
 obtain⟨wz,hwz⟩:∃y:World,y=wb.alloc (.cells #[.slice none 0 0,.int .i64 0,.int .i64 0,.slice none 0 0,.slice none 0 0,.slice none 0 0] 93):=⟨_,rfl⟩
 have hsa:wa.heap.size=w.heap.size+1:=by rw [hwa];simp
 have hsb:wb.heap.size=w.heap.size+2:=by rw [hwb];simp [hsa]
 have R3:Hid (wz.heap[w.heap.size]? =some (.cells #[.slice al x.head.log.length cl,.int .i64 x.head.boot,.int .i64 x.head.next,.slice ao x.head.opn.length co,.slice ah x.houses.length ch,.slice an x.net.length cn] 93 (0,0))):=η (by rw [hwz,hwb,hwa];exact heap_later (heap_later (row_new _ _) _) _)
 have R5:Hid (wz.heap[w.heap.size+1]? =some (.cells #[.slice al2 h.log.length cl2,.int .i64 h.sums.a,.int .i64 h.sums.b,.int .i64 h.sums.c,.int .i64 h.sums.d,.slice ar2 h.ready.length cr2,.slice ad2 h.done.length cd2] 29 (0,0))):=η (by rw [hwz,hwb,←hsa];exact heap_later (row_new _ _) _)
 have R6:Hid (wz.heap[w.heap.size+2]? =some (.cells #[.slice none 0 0,.int .i64 0,.int .i64 0,.slice none 0 0,.slice none 0 0,.slice none 0 0] 93 (0,0))):=η (by rw [hwz,←hsb];exact row_new _ _)
 have G1:Hid (Grow w wz):=η (by rw [hwz,hwb,hwa];exact(((Grow.refl w).alloc _).alloc _).alloc _)
 have HZ:Hid (wz.heap.size=w.heap.size+3):=η (by rw [hwz];simp [hsb])
 go_enter Try.func167,Try.ntmps167
 go_upto_region 1 with fail
 rw [←hwa]
 try rw [hsa]
 rw [←hwb]
 try rw [hsb]
 rw [←hwz]
 clear hwa hwb hwz hsa hsb
 obtain⟨c0,c1,c2,c3,c4,c5⟩:=cells6 R3.o
 have z1:w.heap.size<wz.heap.size:=(γ R3.o)
 go_wp2_with (first|(at_builtin;refine wpList_appc (c:=c) (base:=w.heap.size+3) (l:=[]) (m:=x.houses) (v:=.slice (some ⟨wz.heap.size,0,none⟩) 0 0) ei_hs rfl one_Ths (by decide) rfl (.tmp 7) (.tmp 9) rfl rfl (OwnC.made0 Ty.hs _ _ _ _ ?c1 ?c1') rfl ?src ?c3 ?c4 ?_))
 case c1=>rw [HZ.o];exact Nat.le_refl _
 case c1'=>rfl
 case src=>exact Src.of_sl_c (by decide) (HC.o.trans (G1.o.alloc _).sub) HQ2.o
 case c3=>(try simp);omega
 case c4=>have:=HZ.o;(try simp);omega
 intro a8 c8 w8 ho8 hg8 hb8
 try simp only [List.length_nil,Nat.zero_add,List.nil_append] at ho8
 try simp only [List.length_nil,Nat.zero_add]
 have HO8:=η ho8
 have G8:=η (grow_by (w0:=wz) ((Grow.refl wz).alloc _) hg8 (own_at (Nat.le_refl _)))
 have R38:=η (row_grow R3.o G8.o)
 have R58:=η (row_grow R5.o G8.o)
 have R68:=η (row_grow R6.o G8.o)
 clear ho8 hg8 hb8 c0 c1 c2 c3 c4 c5 z1
 go_wp2_with (first|(refine wpList_store_cell rfl (.tmp 11) (.tmp 10) (v:=.slice a8 x.houses.length c8) (new:=#[.slice al x.head.log.length cl,.int .i64 x.head.boot,.int .i64 x.head.next,.slice ao x.head.opn.length co,.slice a8 x.houses.length c8,.slice an x.net.length cn]) rfl rfl (by rfl) (by rfl) R38.o info_hss (by simp) (by rfl) (by rfl) ?_))
 intro w9 r9 g9
 have R39:=η r9
 have G9:=η ((G1.o.trans G8.o).grown g9 (fun q hq=>by simp at hq;omega))
 have R59:=η (row_by R58.o g9 (by intro e;have:=Option.some.inj e;omega))
 have R69:=η (row_by R68.o g9 (by intro e;have:=Option.some.inj e;omega))
 have HO9:=η (HO8.o.kept g9 (own_apart HO8.o (by omega)))
 clear r9 g9
 obtain⟨g,-,rfl,-,-⟩:=HO9.o.get (by decide) k hk
 obtain⟨c0,c1,c2,c3,c4,c5⟩:=cells6 R39.o
 obtain⟨d0,d1,d2,d3,d4,d5,d6⟩:=cells7 R59.o
 have z1:w.heap.size<w9.heap.size:=(γ R39.o)
 have z2:w.heap.size+1<w9.heap.size:=(γ R59.o)
 have hkc:(k:Int)<(x.houses.length:Int):=by omega
 go_wp2_with (first|(refine wpList_store_el (T:=Ty.hs) (c:=c) (base:=w.heap.size+3) (i:=k) (l:=x.houses) (x:=h) (cells:=#[.slice al2 h.log.length cl2,.int .i64 h.sums.a,.int .i64 h.sums.b,.int .i64 h.sums.c,.int .i64 h.sums.d,.slice ar2 h.ready.length cr2,.slice ad2 h.done.length cd2]) rfl (.tmp 16) (.tmp 15) rfl rfl (by rfl) ?ps HO9.o hk info_hs HHR.o rfl ?_))
 case ps=>first|rfl|(simp [Ty.hs];done)|(show _=k*7;omega)
 intro w10 ho10 g10
 have hgl:=(HO9.o.lt g rfl).1
 have R310:=η (row_by R39.o g10 (by intro e;have:=Option.some.inj e;omega))
 have R610:=η (row_by R69.o g10 (by intro e;have:=Option.some.inj e;omega))
 have HO10:=η ho10
 have G10:=η (G9.o.grown g10 (fun q hq=>by simp at hq;omega))
 clear ho10 g10 c0 c1 c2 c3 c4 c5 d0 d1 d2 d3 d4 d5 d6 z1 z2
 obtain⟨c0,c1,c2,c3,c4,c5⟩:=cells6 R310.o
 have z1:w.heap.size<w10.heap.size:=(γ R310.o)
 go_wp2_with (first|(refine wpList_store_row rfl (.tmp 6) (.tmp 17) rfl rfl rfl R610.o info_wd rfl rfl ?_))
 intro w7 r7 g7
 obtain⟨p0,p1,p2,p3,p4,p5⟩:=cells6 r7
 clear c0 c1 c2 c3 c4 c5
 go_wp2
 refine bodyPost_ret (v:=.agg #[.slice al x.head.log.length cl,.int .i64 x.head.boot,.int .i64 x.head.next,.slice ao x.head.opn.length co,.slice (some ⟨g,0,none⟩) x.houses.length c8,.slice an x.net.length cn]) (by simp [results,Try.results167,go_sem,p0,p1,p2,p3,p4,p5]) rfl ?_
 have G7:=G10.o.grown g7 (fun q hq=>by simp at hq;omega)
 refine⟨_,rfl,Of.wd_mk (HQ1.o.mono (ov_in HC.o)) ?_ (HQ3.o.mono (ov_in HC.o)),G7⟩
 have h9:=OwnC.slc (d:=ov c w w7) (by decide) (HO10.o.kept g7 (.inr (by simp [Value.ownBlock];omega))) (ov_in HC.o) fun a ha=>ov_new (by omega)
 exact h9
theorem one_boot {c:CM} (w:World) {b:Nat} (hb:b≤w.heap.size):OwnC Ty.rc c (w.alloc (.cells #[.int .i64 4,.int .i64 0,.slice none 0 0] 48)) b 48 (.slice (some ⟨w.heap.size,0,none⟩) 1 1) [⟨4,0,[]⟩]:=
 ⟨[[.int .i64 4,.int .i64 0,.slice none 0 0]],World.ownsRow_lit w #[.int .i64 4,.int .i64 0,.slice none 0 0] 1 hb (by decide) rfl,rfl,fun i cs x a b=>by
  match i with
  |0=>
   simp only [List.getElem?_cons_zero,Option.some.injEq] at a b
   subst a;subst b
   exact⟨_,rfl,(show I64 4 by unfold I64;decide),zero_ok,Sl.nil _ _⟩
  |i+1=>simp at a⟩
theorem fr_back {w W W':World} {X:List (Option Nat)} (hg:Grow W W') (hs:w.heap.size≤W.heap.size) (hX:∀k,W.heap.size≤k→some k∉X):Sub (ov (fr w W X) W W') (fr w W' X):=fun a v e=>by
 unfold ov at e
 split at e
 ·exact fr_grow hg a v e
 ·rw [fr_new (by omega) (hX _ (by omega))];exact e
theorem fr_past {w w9 w7:World} (h7:w9.grownBy w7 (some w.heap.size)):Sub (fr w w9 [some w.heap.size]) (ov (fun _=>none) w w7):=fun a v e=>by
 unfold fr at e
 split at e
 ·cases e
 ·rename_i hn
  have h1:¬a.block<w.heap.size:=fun hx=>hn (.inl hx)
  have h2:a.block≠w.heap.size:=fun hx=>hn (.inr (by rw [hx];simp))
  rw [ov_new (by omega)]
  exact cell_past e h7 h2
set_option maxRecDepth 100000 in
set_option maxHeartbeats 4000000 in
theorem ref_newN {n:Nat} (w:World) (hn:1≤n∧n≤3):
  Calls Try.prog 137 #[.int .i64 n] w fun e w'=>∃v',e=.returned (.tuple #[v',.int .i64 0])∧Of Ty.wd (ov (fun _=>none) w w') v' (newA n)∧Grow w w':=by
 obtain⟨cs,hmk,hms⟩:=make_houses hn
 have HMS:=η hms
 have hn1:¬(n:Int)<1:=by omega
 have hn3:¬(3:Int)<(n:Int):=by omega
 clear hms
 obtain⟨wz,hwz⟩:∃y:World,y=w.alloc (.cells #[.slice none 0 0,.int .i64 0,.int .i64 0,.slice none 0 0,.slice none 0 0,.slice none 0 0] 93):=⟨_,rfl⟩
 have R2:Hid (wz.heap[w.heap.size]? =some (.cells #[.slice none 0 0,.int .i64 0,.int .i64 0,.slice none 0 0,.slice none 0 0,.slice none 0 0] 93 (0,0))):=η (by rw [hwz];exact row_new _ _)
 have G1:Hid (Grow w wz):=η (by rw [hwz];exact(Grow.refl w).alloc _)
 have HZ:Hid (wz.heap.size=w.heap.size+1):=η (by rw [hwz];simp)
 go_enter Try.func137,Try.ntmps137
 go_upto_region 3 with fail
 rw [←hwz]
 clear hwz
 have HTRU:Hid (∀W,Grow wz W→True):=fun _ _=>trivial
 refine but_start (fun w'=>True) 7 (by kernel_rfl) ?_
 obtain⟨wd,hWd⟩:∃x:World,x=wz.drew:=⟨_,rfl⟩
 rw [←hWd]
 have GD:Grow wz wd:=by rw [hWd];exact(Grow.refl _).drew
 have zD:wz.heap.size=wd.heap.size:=by rw [hWd];rfl
 have ZD:=η zD
 clear hWd zD
 refine bLm [0] 10 (by kernel_rfl) (fun _ _ _ _ _ h=>h) (HTRU.o _ GD) ?_
 repeat (refine tNm (v:=?_) rfl (by rfl) ?_ ?_;rotate_left;(· (intro w' hSw;(try dsimp only at hSw);go_simp<;>with_reducible rfl));try simp only [Act.put,lzA,lzC,lzD,lzE,lzF])
 refine tEm ?_
 refine bLm [3] 10 (by kernel_rfl) (fun _ _ _ _ _ h=>h) (HTRU.o _ GD) ?_
 repeat (refine tNm (v:=?_) rfl (by rfl) ?_ ?_;rotate_left;(· (intro w' hSw;(try dsimp only at hSw);go_simp<;>with_reducible rfl));try simp only [Act.put,lzA,lzB,lzC,lzD,lzE,lzF])
 refine tEm ?_
 refine bP 1 4 (by kernel_rfl) rfl rfl ?_ ?_
 ·intro K HK
  try simp only [lzA,lzB,lzC]
  go_simp
  obtain⟨y1,hy1⟩:∃y:World,y=wd.alloc (.cells #[.int .i64 4,.int .i64 0,.slice none 0 0] 48):=⟨_,rfl⟩
  obtain⟨By1,hBy1⟩:∃y,y=wd.heap.size:=⟨_,rfl⟩
  have S_y1:Hid (Grow wd y1):=η (by rw [hy1];exact(Grow.refl _).alloc _)
  have G_y1:=η (Grow.trans (GD) S_y1.o)
  have lit_y1:Hid (OwnC Ty.rc (fun _=>none) y1 (w.heap.size+1) 48 (.slice (some ⟨By1,0,none⟩) 1 1) [⟨4,0,[]⟩]):=η (by rw [hy1,hBy1];exact one_boot _ (by have:=(GD).size;have:=HZ.o;omega))
  rw [←hy1,←hBy1]
  clear hy1 hBy1
  refine HK.o _ _ ⟨fun _=>HTRU.o _ G_y1.o,?_⟩
  clear HK K
  try simp only [Act.put,lzA,lzB,lzC,lzD,lzE,lzF]
  refine bP 2 4 (by kernel_rfl) rfl rfl ?_ ?_
  ·intro K HK
   try simp only [lzA,lzB,lzC]
   go_simp
   go_at_call 43
   refine(ref_head (l:=[⟨4,0,[]⟩]) (c:=fr w y1 [some w.heap.size]) y1 (fr_sub _ _ _) (OwnC.slc (d:=fr w y1 [some w.heap.size]) (by decide) (lit_y1.o) (fun _ _ e=>by cases e) fun a ha=>fr_new (by omega) (by simp;omega)) (by decide)).mono ?_
   rintro e y2 ⟨vh,rfl,hx,hby2⟩
   obtain⟨al2,cl2,ar2,cr2,rfl⟩:=hx.hd_form
   have S_y2:Hid (Grow y1 y2):=η (hby2)
   have G_y2:=η (Grow.trans (G_y1.o) S_y2.o)
   have hd_y2:=η (Of.mono (fr_back hby2 (by have:=(G_y1.o).size;have:=HZ.o;omega) (fun k9 hk9=>by have:=(G_y1.o).size;have:=HZ.o;simp;omega)) hx)
   clear hx hby2
   generalize hqh:headR [⟨4,0,[]⟩]=qh at*
   have HQH:=η hqh
   clear hqh
   refine HK.o _ _ ⟨fun _=>HTRU.o _ G_y2.o,?_⟩
   clear HK K
   try simp only [Act.put,lzA,lzB,lzC,lzD,lzE,lzF]
   refine bO 4 (by kernel_rfl) rfl ?_
   intro K HK
   try simp only [lzA,lzB,lzC]
   have hmk9:=hmk y2
   go_simp
   clear hmk9
   obtain⟨y3,hy3⟩:∃y:World,y=y2.alloc (.cells cs 29):=⟨_,rfl⟩
   obtain⟨By3,hBy3⟩:∃y,y=y2.heap.size:=⟨_,rfl⟩
   have S_y3:Hid (Grow y2 y3):=η (by rw [hy3];exact(Grow.refl _).alloc _)
   have G_y3:=η (Grow.trans (G_y2.o) S_y3.o)
   have hd_y3:=η (Of.mono (fr_grow S_y3.o) (hd_y2.o))
   have hs_y3:Hid (OwnC Ty.hs (fun _=>none) y3 (w.heap.size+1) 29 (.slice (some ⟨By3,0,none⟩) n n) (List.replicate n hs0)):=η (by rw [hy3,hBy3];exact(HMS.o _).base (by have:=(G_y2.o).size;have:=HZ.o;omega))
   rw [←hy3,←hBy3]
   clear hy3 hBy3
   refine HK.o _ _ ⟨fun _=>HTRU.o _ G_y3.o,?_⟩
   clear HK K
   try simp only [Act.put,lzA,lzB,lzC,lzD,lzE,lzF]
   refine bO 5 (by kernel_rfl) rfl ?_
   intro K HK
   try simp only [lzA,lzB,lzC]
   go_simp
   refine HK.o _ _ ⟨fun _=>HTRU.o _ G_y3.o,?_⟩
   clear HK K
   try simp only [Act.put,lzA,lzB,lzC,lzD,lzE,lzF]
   refine bO 6 (by kernel_rfl) rfl ?_
   intro K HK
   refine wanted_go rfl ?_
   try simp only [lzA,lzB,lzC]
   refine wp_store_row (.tmp 2) (.tmp 16) rfl rfl rfl (row_grow R2.o (G_y3.o)) info_wd rfl rfl ?_
   intro w7 r7 g7
   refine HK.o _ _ ⟨fun _=>trivial,?_⟩
   clear HK K
   try simp only [Act.put]
   refine bO 7 (by kernel_rfl) rfl ?_
   intro K HK
   try simp only [lzA,lzB,lzC]
   go_simp
   refine HK.o _ _ ⟨fun h=>absurd rfl h,?_⟩
   clear HK K
   try simp only [Act.put,lzA,lzB,lzC,lzD,lzE,lzF]
   refine but_done (by kernel_rfl) ?_
   obtain⟨p0,p1,p2,p3,p4,p5⟩:=cells6 r7
   go_wp2
   refine bodyPost_ret (v:=.tuple #[.agg #[.slice al2 qh.log.length cl2,.int .i64 qh.boot,.int .i64 qh.next,.slice ar2 qh.opn.length cr2,.slice (some ⟨By3,0,none⟩) n n,.slice none 0 0],.int .i64 0]) (by simp [results,Try.results137,go_sem,p0,p1,p2,p3,p4,p5]) rfl ?_
   have G7:=(G1.o.trans (G_y3.o)).grown g7 (fun q hq=>by simp at hq;omega)
   refine⟨_,rfl,?_,G7⟩
   unfold newA
   rw [HQH.o]
   refine Of.wd_mk ((hd_y3.o).mono (fr_past g7)) ?_ (Sl.nil _ _)
   have h9:=OwnC.slc (T:=Ty.hs) (c:=fun _=>none) (d:=ov (fun _=>none) w w7) (by decide) ((hs_y3.o).kept g7 (own_apart (hs_y3.o) (by omega))) (fun _ _ e=>by cases e) fun a ha=>ov_new (by omega)
   exact h9
  ·intro K HK
   try simp only [lzA,lzB,lzC]
   have hmk9:=hmk y1
   go_simp
   clear hmk9
   obtain⟨y4,hy4⟩:∃y:World,y=y1.alloc (.cells cs 29):=⟨_,rfl⟩
   obtain⟨By4,hBy4⟩:∃y,y=y1.heap.size:=⟨_,rfl⟩
   have S_y4:Hid (Grow y1 y4):=η (by rw [hy4];exact(Grow.refl _).alloc _)
   have G_y4:=η (Grow.trans (G_y1.o) S_y4.o)
   have lit_y4:=η (OwnC.grow (lit_y1.o) S_y4.o)
   have hs_y4:Hid (OwnC Ty.hs (fun _=>none) y4 (w.heap.size+1) 29 (.slice (some ⟨By4,0,none⟩) n n) (List.replicate n hs0)):=η (by rw [hy4,hBy4];exact(HMS.o _).base (by have:=(G_y1.o).size;have:=HZ.o;omega))
   rw [←hy4,←hBy4]
   clear hy4 hBy4
   refine HK.o _ _ ⟨fun _=>HTRU.o _ G_y4.o,?_⟩
   clear HK K
   try simp only [Act.put,lzA,lzB,lzC,lzD,lzE,lzF]
   refine bO 2 (by kernel_rfl) rfl ?_
   intro K HK
   try simp only [lzA,lzB,lzC]
   go_simp
   go_at_call 43
   refine(ref_head (l:=[⟨4,0,[]⟩]) (c:=fr w y4 [some w.heap.size]) y4 (fr_sub _ _ _) (OwnC.slc (d:=fr w y4 [some w.heap.size]) (by decide) (lit_y4.o) (fun _ _ e=>by cases e) fun a ha=>fr_new (by omega) (by simp;omega)) (by decide)).mono ?_
   rintro e y5 ⟨vh,rfl,hx,hby5⟩
   obtain⟨al2,cl2,ar2,cr2,rfl⟩:=hx.hd_form
   have S_y5:Hid (Grow y4 y5):=η (hby5)
   have G_y5:=η (Grow.trans (G_y4.o) S_y5.o)
   have hs_y5:=η (OwnC.grow (hs_y4.o) S_y5.o)
   have hd_y5:=η (Of.mono (fr_back hby5 (by have:=(G_y4.o).size;have:=HZ.o;omega) (fun k9 hk9=>by have:=(G_y4.o).size;have:=HZ.o;simp;omega)) hx)
   clear hx hby5
   generalize hqh:headR [⟨4,0,[]⟩]=qh at*
   have HQH:=η hqh
   clear hqh
   refine HK.o _ _ ⟨fun _=>HTRU.o _ G_y5.o,?_⟩
   clear HK K
   try simp only [Act.put,lzA,lzB,lzC,lzD,lzE,lzF]
   refine bO 5 (by kernel_rfl) rfl ?_
   intro K HK
   try simp only [lzA,lzB,lzC]
   go_simp
   refine HK.o _ _ ⟨fun _=>HTRU.o _ G_y5.o,?_⟩
   clear HK K
   try simp only [Act.put,lzA,lzB,lzC,lzD,lzE,lzF]
   refine bO 6 (by kernel_rfl) rfl ?_
   intro K HK
   refine wanted_go rfl ?_
   try simp only [lzA,lzB,lzC]
   refine wp_store_row (.tmp 2) (.tmp 16) rfl rfl rfl (row_grow R2.o (G_y5.o)) info_wd rfl rfl ?_
   intro w7 r7 g7
   refine HK.o _ _ ⟨fun _=>trivial,?_⟩
   clear HK K
   try simp only [Act.put]
   refine bO 7 (by kernel_rfl) rfl ?_
   intro K HK
   try simp only [lzA,lzB,lzC]
   go_simp
   refine HK.o _ _ ⟨fun h=>absurd rfl h,?_⟩
   clear HK K
   try simp only [Act.put,lzA,lzB,lzC,lzD,lzE,lzF]
   refine but_done (by kernel_rfl) ?_
   obtain⟨p0,p1,p2,p3,p4,p5⟩:=cells6 r7
   go_wp2
   refine bodyPost_ret (v:=.tuple #[.agg #[.slice al2 qh.log.length cl2,.int .i64 qh.boot,.int .i64 qh.next,.slice ar2 qh.opn.length cr2,.slice (some ⟨By4,0,none⟩) n n,.slice none 0 0],.int .i64 0]) (by simp [results,Try.results137,go_sem,p0,p1,p2,p3,p4,p5]) rfl ?_
   have G7:=(G1.o.trans (G_y5.o)).grown g7 (fun q hq=>by simp at hq;omega)
   refine⟨_,rfl,?_,G7⟩
   unfold newA
   rw [HQH.o]
   refine Of.wd_mk ((hd_y5.o).mono (fr_past g7)) ?_ (Sl.nil _ _)
   have h9:=OwnC.slc (T:=Ty.hs) (c:=fun _=>none) (d:=ov (fun _=>none) w w7) (by decide) ((hs_y5.o).kept g7 (own_apart (hs_y5.o) (by omega))) (fun _ _ e=>by cases e) fun a ha=>ov_new (by omega)
   exact h9
 ·intro K HK
  try simp only [lzA,lzB,lzC]
  have hmk9:=hmk wd
  go_simp
  clear hmk9
  obtain⟨y6,hy6⟩:∃y:World,y=wd.alloc (.cells cs 29):=⟨_,rfl⟩
  obtain⟨By6,hBy6⟩:∃y,y=wd.heap.size:=⟨_,rfl⟩
  have S_y6:Hid (Grow wd y6):=η (by rw [hy6];exact(Grow.refl _).alloc _)
  have G_y6:=η (Grow.trans (GD) S_y6.o)
  have hs_y6:Hid (OwnC Ty.hs (fun _=>none) y6 (w.heap.size+1) 29 (.slice (some ⟨By6,0,none⟩) n n) (List.replicate n hs0)):=η (by rw [hy6,hBy6];exact(HMS.o _).base (by have:=(GD).size;have:=HZ.o;omega))
  rw [←hy6,←hBy6]
  clear hy6 hBy6
  refine HK.o _ _ ⟨fun _=>HTRU.o _ G_y6.o,?_⟩
  clear HK K
  try simp only [Act.put,lzA,lzB,lzC,lzD,lzE,lzF]
  refine bO 1 (by kernel_rfl) rfl ?_
  intro K HK
  try simp only [lzA,lzB,lzC]
  go_simp
  obtain⟨y7,hy7⟩:∃y:World,y=y6.alloc (.cells #[.int .i64 4,.int .i64 0,.slice none 0 0] 48):=⟨_,rfl⟩
  obtain⟨By7,hBy7⟩:∃y,y=y6.heap.size:=⟨_,rfl⟩
  have S_y7:Hid (Grow y6 y7):=η (by rw [hy7];exact(Grow.refl _).alloc _)
  have G_y7:=η (Grow.trans (G_y6.o) S_y7.o)
  have hs_y7:=η (OwnC.grow (hs_y6.o) S_y7.o)
  have lit_y7:Hid (OwnC Ty.rc (fun _=>none) y7 (w.heap.size+1) 48 (.slice (some ⟨By7,0,none⟩) 1 1) [⟨4,0,[]⟩]):=η (by rw [hy7,hBy7];exact one_boot _ (by have:=(G_y6.o).size;have:=HZ.o;omega))
  rw [←hy7,←hBy7]
  clear hy7 hBy7
  refine HK.o _ _ ⟨fun _=>HTRU.o _ G_y7.o,?_⟩
  clear HK K
  try simp only [Act.put,lzA,lzB,lzC,lzD,lzE,lzF]
  refine bO 2 (by kernel_rfl) rfl ?_
  intro K HK
  try simp only [lzA,lzB,lzC]
  go_simp
  go_at_call 43
  refine(ref_head (l:=[⟨4,0,[]⟩]) (c:=fr w y7 [some w.heap.size]) y7 (fr_sub _ _ _) (OwnC.slc (d:=fr w y7 [some w.heap.size]) (by decide) (lit_y7.o) (fun _ _ e=>by cases e) fun a ha=>fr_new (by omega) (by simp;omega)) (by decide)).mono ?_
  rintro e y8 ⟨vh,rfl,hx,hby8⟩
  obtain⟨al2,cl2,ar2,cr2,rfl⟩:=hx.hd_form
  have S_y8:Hid (Grow y7 y8):=η (hby8)
  have G_y8:=η (Grow.trans (G_y7.o) S_y8.o)
  have hs_y8:=η (OwnC.grow (hs_y7.o) S_y8.o)
  have hd_y8:=η (Of.mono (fr_back hby8 (by have:=(G_y7.o).size;have:=HZ.o;omega) (fun k9 hk9=>by have:=(G_y7.o).size;have:=HZ.o;simp;omega)) hx)
  clear hx hby8
  generalize hqh:headR [⟨4,0,[]⟩]=qh at*
  have HQH:=η hqh
  clear hqh
  refine HK.o _ _ ⟨fun _=>HTRU.o _ G_y8.o,?_⟩
  clear HK K
  try simp only [Act.put,lzA,lzB,lzC,lzD,lzE,lzF]
  refine bO 5 (by kernel_rfl) rfl ?_
  intro K HK
  try simp only [lzA,lzB,lzC]
  go_simp
  refine HK.o _ _ ⟨fun _=>HTRU.o _ G_y8.o,?_⟩
  clear HK K
  try simp only [Act.put,lzA,lzB,lzC,lzD,lzE,lzF]
  refine bO 6 (by kernel_rfl) rfl ?_
  intro K HK
  refine wanted_go rfl ?_
  try simp only [lzA,lzB,lzC]
  refine wp_store_row (.tmp 2) (.tmp 16) rfl rfl rfl (row_grow R2.o (G_y8.o)) info_wd rfl rfl ?_
  intro w7 r7 g7
  refine HK.o _ _ ⟨fun _=>trivial,?_⟩
  clear HK K
  try simp only [Act.put]
  refine bO 7 (by kernel_rfl) rfl ?_
  intro K HK
  try simp only [lzA,lzB,lzC]
  go_simp
  refine HK.o _ _ ⟨fun h=>absurd rfl h,?_⟩
  clear HK K
  try simp only [Act.put,lzA,lzB,lzC,lzD,lzE,lzF]
  refine but_done (by kernel_rfl) ?_
  obtain⟨p0,p1,p2,p3,p4,p5⟩:=cells6 r7
  go_wp2
  refine bodyPost_ret (v:=.tuple #[.agg #[.slice al2 qh.log.length cl2,.int .i64 qh.boot,.int .i64 qh.next,.slice ar2 qh.opn.length cr2,.slice (some ⟨By6,0,none⟩) n n,.slice none 0 0],.int .i64 0]) (by simp [results,Try.results137,go_sem,p0,p1,p2,p3,p4,p5]) rfl ?_
  have G7:=(G1.o.trans (G_y8.o)).grown g7 (fun q hq=>by simp at hq;omega)
  refine⟨_,rfl,?_,G7⟩
  unfold newA
  rw [HQH.o]
  refine Of.wd_mk ((hd_y8.o).mono (fr_past g7)) ?_ (Sl.nil _ _)
  have h9:=OwnC.slc (T:=Ty.hs) (c:=fun _=>none) (d:=ov (fun _=>none) w w7) (by decide) ((hs_y8.o).kept g7 (own_apart (hs_y8.o) (by omega))) (fun _ _ e=>by cases e) fun a ha=>ov_new (by omega)
  exact h9
theorem compact_spec (d:Array Int) (hs:∀i j,i≤j→j<d.size→d[i]! ≤d[j]!):∀m,m≤d.size→(Lib.compactUpTo d m).Pairwise (· < ·)∧∀x,x∈Lib.compactUpTo d m↔∃j,j<m∧d[j]! =x
 |0,_=>⟨by simp [Lib.compactUpTo],fun x=>by simp [Lib.compactUpTo]⟩
 |m+1,hm=>by
  obtain⟨h1,h2⟩:=compact_spec d hs m (by omega)
  rw [Lib.compactUpTo_succ]
  by_cases hk:Lib.keeps d m=true
  ·rw [if_pos hk]
   have hlt:∀x∈Lib.compactUpTo d m,x<d[m]!:=fun x hx=>by
    obtain⟨j,hj,rfl⟩:=(h2 x).1 hx
    have a:=hs j (m - 1) (by omega) (by omega)
    have b:=hs (m - 1) m (by omega) (by omega)
    have c:d[m]! ≠d[m - 1]!:=by
     unfold Lib.keeps at hk
     rcases of_decide_eq_true hk with e|e
     ·omega
     ·exact e
    omega
   refine⟨?_,fun x=>?_⟩
   ·rw [List.pairwise_append]
    exact⟨h1,by simp,fun a ha b hb=>by simp only [List.mem_singleton] at hb;subst hb;exact hlt a ha⟩
   ·rw [List.mem_append,h2,List.mem_singleton]
    constructor
    ·rintro(⟨j,hj,e⟩|e)
     ·exact⟨j,by omega,e⟩
     ·exact⟨m,by omega,e.symm⟩
    ·rintro⟨j,hj,e⟩
     by_cases hjm:j=m
     ·subst hjm;exact .inr e.symm
     ·exact .inl ⟨j,by omega,e⟩
  ·rw [if_neg hk,List.append_nil]
   refine⟨h1,fun x=>?_⟩
   rw [h2]
   have hk':¬(m=0∨d[m]! ≠d[m - 1]!):=by
    intro h
    exact hk (by unfold Lib.keeps;exact decide_eq_true h)
   have e0:m≠0:=fun e=>hk' (.inl e)
   have e1:d[m]! =d[m - 1]!:=by
    rcases Classical.em (d[m]! =d[m - 1]!) with h|h
    ·exact h
    ·exact absurd (.inr h) hk'
   constructor
   ·rintro⟨j,hj,e⟩;exact⟨j,by omega,e⟩
   ·rintro⟨j,hj,e⟩
    by_cases hjm:j=m
    ·subst hjm;exact⟨j - 1,by omega,by rw [←e1];exact e⟩
    ·exact⟨j,by omega,e⟩
theorem sort_once (l:List Int):(Lib.compact (l.mergeSort fun x y=>decide (x≤y))).Pairwise (· < ·)∧∀x,x∈Lib.compact (l.mergeSort fun x y=>decide (x≤y))↔x∈l:=by
 have hp:(l.mergeSort fun x y=>decide (x≤y)).Pairwise fun a b=>decide (a≤b)=true:=
  List.pairwise_mergeSort (fun a b c h1 h2=>by simp only [decide_eq_true_eq] at*;omega) (fun a b=>by simp only [Bool.or_eq_true,decide_eq_true_eq];omega) l
 have hm:∀x,x∈(l.mergeSort fun x y=>decide (x≤y))↔x∈l:=fun x=>List.mem_mergeSort
 generalize (l.mergeSort fun x y=>decide (x≤y))=s at hp hm
 have hs:∀i j,i≤j→j<s.toArray.size→s.toArray[i]! ≤s.toArray[j]!:=fun i j hij hj=>by
  have hj':j<s.length:=by simpa using hj
  rw [getElem!_pos s.toArray j hj,getElem!_pos s.toArray i (by omega)]
  by_cases e:i=j
  ·subst e;exact Int.le_refl _
  ·have:=List.pairwise_iff_getElem.1 hp i j (by omega) hj' (by omega)
   simpa using this
 obtain⟨h1,h2⟩:=compact_spec s.toArray hs s.length (by simp)
 refine⟨h1,fun x=>?_⟩
 rw [←hm]
 show x∈Lib.compactUpTo s.toArray s.length↔_
 rw [h2,List.mem_iff_getElem]
 constructor
 ·rintro⟨j,hj,e⟩
  rw [getElem!_pos s.toArray j (by simpa using hj)] at e
  exact⟨j,hj,by simpa using e⟩
 ·rintro⟨j,hj,e⟩
  exact⟨j,hj,by rw [getElem!_pos s.toArray j (by simpa using hj)];simpa using e⟩
def openReady (hs:List Hs):List Int:=hs.flatMap fun h=>h.ready.map (·.deed)
def openAt (hs:List Hs) (r:Rd):List Int:=((housesE r.parts).filter fun n=>!decide (r.deed∈(hs.getD n.toNat hs0).done)).map fun _=>r.deed
def openDec (hs:List Hs) (D:List Rd):List Int:=D.flatMap (openAt hs)
theorem open_all {n:Nat} {G:Reg} {w:AW} (i:WI n G w):Lib.compact ((openReady w.houses++openDec w.houses (decidedR w.head.log)).mergeSort fun x y=>decide (x≤y))=opensE w:=by
 obtain⟨h1,h2⟩:=sort_once (openReady w.houses++openDec w.houses (decidedR w.head.log))
 refine sorted_ext h1 ?_ fun x=>?_
 ·unfold opensE
  refine List.Pairwise.filter _ ?_
  rw [List.pairwise_map]
  exact List.pairwise_lt_range.imp fun h=>by omega
 ·rw [h2,List.mem_append]
  have key:isOpen w x=true↔(x∈openReady w.houses∨x∈openDec w.houses (decidedR w.head.log)):=by
   unfold isOpen
   rw [Bool.or_eq_true]
   refine or_congr ?_ ?_
   ·unfold openReady readyE
    rw [List.any_eq_true,List.mem_flatMap]
    constructor
    ·rintro⟨h,hh,hx⟩
     obtain⟨r,hr,e⟩:=List.any_eq_true.1 hx
     exact⟨h,hh,List.mem_map.2 ⟨r,hr,by simpa [isD] using e⟩⟩
    ·rintro⟨h,hh,hx⟩
     obtain⟨r,hr,e⟩:=List.mem_map.1 hx
     exact⟨h,hh,List.any_eq_true.2 ⟨r,hr,by simpa [isD] using e⟩⟩
   ·unfold openDec
    rw [List.any_eq_true,List.mem_flatMap]
    have hl:=i.core.len
    have h3:=i.core.n3
    constructor
    ·rintro⟨r,hr,hx⟩
     rw [Bool.and_eq_true,List.any_eq_true] at hx
     obtain⟨e,k,hk,hx⟩:=hx
     rw [Bool.and_eq_true] at hx
     have hk':=List.mem_range.1 hk
     have e':r.deed=x:=by simpa using e
     refine⟨r,hr,List.mem_map.2 ⟨(k:Int),List.mem_filter.2 ⟨houses_mem.2 ⟨by omega,fun e0=>by have:=hx.1;rw [e0] at this;simp at this⟩,?_⟩,e'⟩⟩
     rw [e'];exact hx.2
    ·rintro⟨r,hr,hx⟩
     obtain⟨k,hk,e⟩:=List.mem_map.1 hx
     obtain⟨hk,hd⟩:=List.mem_filter.1 hk
     have hw:wrongE r.parts n=0:=(i.core.reg.ok _ (i.core.dec.reg r hr)).2
     have hb:=houses_lt hw hk
     have hm:=houses_mem.1 hk
     refine⟨r,hr,?_⟩
     rw [Bool.and_eq_true,List.any_eq_true]
     refine⟨by simpa using e,k.toNat,List.mem_range.2 (by omega),?_⟩
     rw [Bool.and_eq_true,show((k.toNat:Nat):Int)=k by omega]
     refine⟨?_,by rw [←e];exact hd⟩
     cases ho:ofL r.parts k with
     |nil=>exact absurd ho hm.2
     |cons a b=>rfl
  constructor
  ·intro hx
   have hx':=key.2 hx
   unfold opensE
   refine List.mem_filter.2 ⟨?_,hx'⟩
   have hd:∃P,(x,P)∈G:=by
    rcases hx with hx|hx
    ·obtain⟨h,hh,hx⟩:=List.mem_flatMap.1 hx
     obtain⟨r,hr,rfl⟩:=List.mem_map.1 hx
     obtain⟨j,hj⟩:=List.mem_iff_getElem?.1 hh
     obtain⟨P,hP,-⟩:=(i.core.house j h hj).reg r hr
     exact⟨P,hP⟩
    ·obtain⟨r,hr,hx⟩:=List.mem_flatMap.1 hx
     obtain⟨k,-,rfl⟩:=List.mem_map.1 hx
     exact⟨_,i.core.dec.reg r hr⟩
   obtain⟨P,hP⟩:=hd
   have:=i.core.deed hP
   exact List.mem_map.2 ⟨x.toNat,List.mem_range.2 (by omega),by omega⟩
  ·intro hx
   unfold opensE at hx
   exact key.1 (List.mem_filter.1 hx).2
def wholeGo (D:List Rd) (k:Int):List Int→Sm→List Int→Option Sm
 |_,s,[]=>some s
 |pre,s,d::ds=>match D.find? (isD d) with
  |none=>none
  |some r=>if d∈pre∨ofL r.parts k=[] then none else wholeGo D k (pre++ [d]) (doP s (ofL r.parts k)) ds
theorem whole_go {D:List Rd} {k:Int} (hD:(D.map (·.deed)).Nodup):∀(ds pre:List Int) (s:Sm),(pre++ds).Nodup→(∀d∈ds,∃r∈D,r.deed=d∧ofL r.parts k≠ [])→
  wholeGo D k pre s ds=some (ds.foldl (fun s d=>match D.find? (isD d) with|some r=>doP s (ofL r.parts k)|none=>s) s)
 | [],_,_,_,_=>rfl
 |d::ds,pre,s,hn,h=>by
  obtain⟨r,hr,e,hne⟩:=h d List.mem_cons_self
  have hf:D.find? (isD d)=some r:=by rw [←e];exact find_dec hD hr
  have hnp:d∉pre:=fun hp=>by
   rw [List.nodup_append] at hn
   exact hn.2.2 d hp d List.mem_cons_self rfl
  rw [wholeGo,hf]
  simp only
  rw [if_neg (by rintro(h1|h1);exact hnp h1;exact hne h1),whole_go hD ds (pre++ [d]) _ (by rw [List.append_assoc];exact hn) (fun x hx=>h x (List.mem_cons_of_mem _ hx)),List.foldl_cons,hf]
theorem HI.whole {G:Reg} {D:List Rd} {k:Int} {h:Hs} (hi:HI G D k h) (hd:DecOk G D):wholeGo D k [] ⟨0,0,0,0⟩ h.done=some h.sums:=by
 rw [whole_go hd.nd h.done [] _ hi.nodup hi.done,hi.sums]
 rfl
theorem whole_app {D:List Rd} {k:Int} (x:Int) (hx:∀pre s,wholeGo D k pre s [x]=none∨x∉pre):∀(ds pre:List Int) (s:Sm),(x∈pre++ds∨∀pre s,wholeGo D k pre s [x]=none)→wholeGo D k pre s (ds++ [x])=none
 | [],pre,s,h=>by
  rw [List.nil_append]
  rcases h with h|h
  ·rcases hx pre s with e|e
   ·exact e
   ·rw [List.append_nil] at h;exact absurd h e
  ·exact h pre s
 |d::ds,pre,s,h=>by
  rw [List.cons_append,wholeGo]
  split
  ·rfl
  ·split
   ·rfl
   ·refine whole_app x hx ds _ _ ?_
    rcases h with h|h
    ·exact .inl (by rw [List.append_assoc];exact h)
    ·exact .inr h
theorem whole_twice {D:List Rd} {k x:Int} {ds:List Int} (h:x∈ds) (s:Sm):wholeGo D k [] s (ds++ [x])=none:=by
 have h1:∀pre s,wholeGo D k pre s [x]=none∨x∉pre:=fun pre s=>by
  by_cases hp:x∈pre
  ·left
   rw [wholeGo]
   split
   ·rfl
   ·rw [if_pos (.inl hp)]
  ·exact .inr hp
 exact whole_app x h1 ds [] s (.inl (by simpa using h))
theorem whole_strange {D:List Rd} {k x:Int} {ds:List Int} (h:∀r∈D,r.deed≠x) (s:Sm):wholeGo D k [] s (ds++ [x])=none:=by
 have hf:D.find? (isD x)=none:=by
  rw [List.find?_eq_none]
  intro r hr e
  exact h r hr (by simpa [isD] using e)
 have h1:∀pre s,wholeGo D k pre s [x]=none:=fun pre s=>by rw [wholeGo,hf]
 exact whole_app x (fun pre s=>.inl (h1 pre s)) ds [] s (.inr h1)
def rdAt (hs:List Hs) (x:Int):Prop:=∃h∈hs,readyE h.ready x=true
def dcAt (hs:List Hs) (r:Rd) (j:Nat):Prop:=∃k h,k<j∧hs[k]? =some h∧ofL r.parts k≠ []∧r.deed∉h.done
def dcAll (hs:List Hs) (D:List Rd) (x:Int):Prop:=∃r∈D,r.deed=x∧dcAt hs r hs.length
theorem isOpen_iff {w:AW} {x:Int}:isOpen w x=true↔rdAt w.houses x∨dcAll w.houses (decidedR w.head.log) x:=by
 unfold isOpen rdAt dcAll dcAt
 rw [Bool.or_eq_true,List.any_eq_true,List.any_eq_true]
 refine or_congr Iff.rfl ⟨?_,?_⟩
 ·rintro⟨r,hr,h⟩
  rw [Bool.and_eq_true,List.any_eq_true] at h
  obtain⟨e,k,hk,h2⟩:=h
  rw [Bool.and_eq_true] at h2
  have hk':=List.mem_range.1 hk
  refine⟨r,hr,by simpa using e,k,w.houses[k],hk',List.getElem?_eq_getElem hk',fun e0=>by rw [e0] at h2;simp at h2,?_⟩
  have h3:=h2.2
  rw [List.getD_eq_getElem?_getD,List.getElem?_eq_getElem hk'] at h3
  have e':r.deed=x:=by simpa using e
  rw [e'];simpa using h3
 ·rintro⟨r,hr,e,k,h,hk,hh,h1,h2⟩
  refine⟨r,hr,?_⟩
  rw [Bool.and_eq_true,List.any_eq_true]
  refine⟨by simpa using e,k,List.mem_range.2 hk,?_⟩
  rw [Bool.and_eq_true,List.getD_eq_getElem?_getD,hh]
  refine⟨?_,by rw [←e];simpa using h2⟩
  cases ho:ofL r.parts k with
  |nil=>exact absurd ho h1
  |cons a b=>rfl
def playE:AW→List St→List Int
 |_,[]=>[]
 |w,s::l=>doErr w s::playE (doA w s) l
theorem playE_len:∀(l:List St) (w:AW),(playE w l).length=l.length
 | [],_=>rfl
 |s::l,w=>by rw [playE,List.length_cons,List.length_cons,playE_len l]
theorem playE_snoc:∀(l:List St) (w:AW) (s:St),playE w (l++ [s])=playE w l++ [doErr (playA w l) s]
 | [],w,s=>rfl
 |t::l,w,s=>by
  rw [List.cons_append,playE,playE,playE_snoc l]
  rfl
theorem playA_snoc (l:List St) (w:AW) (s:St):playA w (l++ [s])=doA (playA w l) s:=by unfold playA;rw [List.foldl_append];rfl
theorem playA_next {l:List St} {j:Nat} (h:j<l.length) (w:AW):playA w (l.take (j+1))=doA (playA w (l.take j)) l[j]:=by
 rw [List.take_succ_eq_append_getElem h,playA_snoc]
theorem playE_next {l:List St} {j:Nat} (h:j<l.length) (w:AW):playE w (l.take (j+1))=playE w (l.take j)++ [doErr (playA w (l.take j)) l[j]]:=by
 rw [List.take_succ_eq_append_getElem h,playE_snoc]
end Go.Proofs.Ytgbhpghgohggcaa
namespace Go.Proofs.Ytgbhpghgohggcaa
open Go.RowKit Go.Shelf Go.Sort
theorem own_sort' {w:World} {base:Nat} {v:Value} {l:List Int} (h:w.ownsRow base 3 1 v l.length (l.flatMap intCell)) (hs:l.length<4611686018427387904):
  Calls Try.prog 139 #[v] w fun e w'=>e=.returned (.tuple #[])∧w'.ownsRow base 3 1 v (l.mergeSort fun x y=>decide (x≤y)).length ((l.mergeSort fun x y=>decide (x≤y)).flatMap intCell)∧w.grownBy w' v.ownBlock:=by
 by_cases hne:l=[]
 ·subst hne
  obtain⟨hl,⟨rfl,-⟩|⟨g,cap,cur,rfl,hg,hrow,hnc,hcm,hcs,htake⟩⟩:=id h
  ·exact(Any.slices_Sort_int_none Try.lays189 none 0 w).mono fun e w' ⟨he,hw⟩=>⟨he,by rw [hw,List.mergeSort_nil];exact h,by rw [hw];exact grownBy_of_grow (Grow.refl w) _⟩
  ·exact(Any.slices_Sort_int_none Try.lays189 (some ⟨g,0,none⟩) cap w).mono fun e w' ⟨he,hw⟩=>⟨he,by rw [hw,List.mergeSort_nil];exact h,by rw [hw];exact grownBy_of_grow (Grow.refl w) _⟩
 ·obtain⟨g,hv,-,hc⟩:=own_sort h hne hs
  rw [hv]
  exact hc
theorem compact_len (l:List Int):(Lib.compact l).length≤l.length:=by
 have:∀(d:Array Int) (m:Nat),(Lib.compactUpTo d m).length≤m:=by
  intro d m
  induction m with
  |zero=>simp [Lib.compactUpTo]
  |succ m ih=>
   rw [Lib.compactUpTo_succ]
   split
   ·rw [List.length_append];simp;omega
   ·rw [List.append_nil];omega
 exact this l.toArray l.length
theorem own_compact {w:World} {base:Nat} {v:Value} {l:List Int} (h:w.ownsRow base 3 1 v l.length (l.flatMap intCell)) (hs:l.length<4611686018427387904):
  Calls Try.prog 140 #[v] w fun e w'=>∃v',e=.returned v'∧w'.ownsRow base 3 1 v' (Lib.compact l).length ((Lib.compact l).flatMap intCell)∧w.grownBy w' v.ownBlock:=by
 obtain⟨hl,⟨rfl,hn⟩|⟨g,cap,cur,rfl,hg,hrow,hnc,hcm,hcs,htake⟩⟩:=id h
 ·have:l=[]:=List.eq_nil_of_length_eq_zero hn
  subst this
  exact(Try.slices_Compact_int_empty none 0 w).mono fun e w' ⟨he,hw⟩=>⟨_,he,by rw [hw];exact h,by rw [hw];exact grownBy_of_grow (Grow.refl w) _⟩
 ·have ht:cur.toList.take l.length=l.map (Value.int .i64):=by rw [←flat_ints,←htake,Nat.mul_one]
  have hcl:=compact_len l
  have hgr:∀W:World,Go.Sort.grow W #[]=W:=fun W=>by cases W;simp [Go.Sort.grow]
  refine(Try.slices_Compact_int g 0 cap l w (holds_of_blockI hrow ht) (by omega) hnc).mono fun e w' ⟨he,q,hw⟩=>⟨_,he,?_,?_⟩
  ·have e9:(Lib.compact l++List.replicate (l.length - (Lib.compact l).length) 0).length=l.length:=by simp;omega
   have h9:=ownsRow_sortedI (n:=q) (os:=#[]) (ss:=l) e9 hg hrow hnc hcm hcs
   have h8:=owns_less (m:=(Lib.compact l).length) h9 hcl
   rw [hw,flat_ints]
   rw [Nat.mul_one,List.map_append,List.take_left' (by simp)] at h8
   rw [hgr] at h8
   exact h8
  ·rw [hw]
   have h7:=grownBy_sortedI (w:=w) (g:=g) (n:=q) (os:=#[]) (Lib.compact l++List.replicate (l.length - (Lib.compact l).length) 0).toArray
   rw [hgr] at h7
   exact h7
end Go.Proofs.Ytgbhpghgohggcaa
namespace Go.Proofs.Ytgbhpghgohggcaa
open Go.RowKit
def LogP (l:List Rc):Prop:=∀r∈l,r.kind=5∨r.parts=[]
theorem LogP.app {l t:List Rc} (h:LogP l) (k:LogP t):LogP (l++t):=fun r hr=>(List.mem_append.1 hr).elim (h r) (k r)
theorem logP_hearO (o:Opn) (m:Ms):LogP (hearO o m).2.1:=by
 intro r hr
 unfold hearO at hr
 split at hr
 ·split at hr
  ·simp only [List.mem_singleton] at hr;rw [hr];exact .inl rfl
  ·simp at hr
 ·split at hr
  ·simp at hr
  ·split at hr
   ·split at hr
    ·simp only [List.mem_singleton] at hr;rw [hr];exact .inr rfl
    ·simp at hr
   ·split at hr<;>simp at hr
theorem logP_hearL {m:Ms}:∀{l:List Opn} {x:List Opn×List Rc×List Ms},hearL m l=some x→LogP x.2.1
 | [],x,h=>by simp [hearL] at h
 |o::l,x,h=>by
  rw [hearL] at h
  split at h
  ·rw [←Option.some.inj h];exact logP_hearO o m
  ·cases e:hearL m l with
   |none=>rw [e] at h;cases h
   |some y=>
    rw [e] at h
    rw [←Option.some.inj h]
    have h9:=logP_hearL e
    exact h9
theorem logP_hHear {h:Hd} (m:Ms) (hk:LogP h.log):LogP (hHearH h m).log:=by
 unfold hHearH
 split
 ·exact hk
 ·rename_i x e
  exact hk.app (logP_hearL e)
theorem logP_fall {h:Hd} (hk:LogP h.log):LogP (fallH h).log:=by
 unfold fallH
 split
 ·exact hk
 ·rw [headR_log]
  exact hk.app fun r hr=>by simp only [List.mem_singleton] at hr;rw [hr];exact .inr rfl
theorem logP_come {w:AW} (m:Ms) (h:LogP w.head.log):LogP (comeA w m).head.log:=by
 unfold comeA
 split
 ·exact h
 ·split
  ·exact h
  ·exact logP_hHear m h
theorem logP_step {w:AW} (h:LogP w.head.log) (s:St):LogP (doA w s).head.log:=by
 unfold doA
 split
 ·split
  ·show LogP (beginH w.head s.parts).log
   rw [begin_log];exact h
  ·exact h
 ·split
  ·split
   ·exact logP_come _ h
   ·exact h
  ·split
   ·split<;>exact h
   ·split
    ·split<;>exact h
    ·split
     ·split
      ·exact logP_fall h
      ·exact h
     ·split
      ·split
       ·unfold tickA
        split
        ·exact h
        ·split<;>exact h
       ·exact h
      ·split<;>exact h
theorem logP_play:∀(l:List St) {w:AW},LogP w.head.log→LogP (playA w l).head.log
 | [],_,h=>h
 |s::l,_,h=>logP_play l (logP_step h s)
theorem logP_new (n:Nat):LogP (newA n).head.log:=by
 show LogP (headR _).log
 rw [headR_log]
 intro r hr
 simp only [List.mem_singleton] at hr
 rw [hr];exact .inr rfl
theorem logP_len {n:Nat} {G:Reg} {x:AW} (i:WI n G x) (h:LogP x.head.log):∀r∈x.head.log,r.parts.length≤4:=fun r hr=>by
 rcases h r hr with h5|h0
 ·exact(wrong_ok (i.core.reg.ok _ (i.core.dec.reg ⟨r.deed,r.parts⟩ (List.mem_map.2 ⟨r,List.mem_filter.2 ⟨hr,by simp [h5]⟩,rfl⟩))).2).2.1
 ·rw [h0];simp
theorem OwnC.toInts {c:CM} {w:World} {base e:Nat} {v:Value} {l:List Int} (h:OwnC Ty.int c w base e v l):w.ownsRow base e 1 v l.length (l.flatMap intCell):=by
 obtain⟨css,h1,h2,h3⟩:=h
 have:css=l.map intCell:=by
  apply List.ext_getElem?
  intro i
  rw [List.getElem?_map]
  by_cases hi:i<l.length
  ·have a:=List.getElem?_eq_getElem (l:=css) (i:=i) (by omega)
   have b:=List.getElem?_eq_getElem (l:=l) (i:=i) hi
   rw [a,b]
   have:=(h3 i _ _ a b).1
   simp [this,intCell]
  ·rw [List.getElem?_eq_none (by omega),List.getElem?_eq_none (by omega)];rfl
 rw [this,←List.flatMap_def] at h1
 exact h1
theorem keep_rg {wB w5 wr w':World} {row:Option Nat} (h:Sub (ov (fun _=>none) wB w5) wr.cell?) (hg:wr.grownBy w' row) (hr:∀q,row=some q→q<wB.heap.size∨w5.heap.size≤q):Sub (ov (fun _=>none) wB w5) w'.cell?:=fun a v e=>by
 have e2:=h a v e
 have hlt:=World.block_lt_of_cell? wr a e2
 unfold ov at e
 split at e
 ·cases e
 ·have h5:=World.block_lt_of_cell? w5 a e
  rw [World.cell?_of_block (hg.block a.block hlt (fun e9=>by have:=hr _ e9.symm;omega))]
  exact e2
def nc (c:CM) (w W:World) (X:List (Option Nat)):CM:=fun a=>if some a.block∈X then none else ov c w W a
theorem nc_ov (c:CM) (w W:World) (X:List (Option Nat)):Sub (nc c w W X) (ov c w W):=fun a v e=>by
 unfold nc at e
 split at e
 ·cases e
 ·exact e
theorem nc_sub {c:CM} {w W:World} (hc:Sub c w.cell?) (hg:Grow w W) (X:List (Option Nat)):Sub (nc c w W X) W.cell?:=(nc_ov c w W X).trans (ov_sub hc hg)
theorem nc_all {c:CM} {w:World} (hc:Sub c w.cell?) {W:World} {X:List (Option Nat)} (hX:∀k,some k∈X→w.heap.size≤k):Sub c (nc c w W X):=fun a v e=>by
 have hl:=World.block_lt_of_cell? w a (hc _ _ e)
 unfold nc
 rw [if_neg (fun h=>by have:=hX _ h;omega)]
 exact ov_in hc _ _ e
theorem nc_grow {c:CM} {w W W':World} {X:List (Option Nat)} (h:Grow W W'):Sub (nc c w W X) (nc c w W' X):=fun a v e=>by
 unfold nc at e ⊢
 split at e
 ·cases e
 ·rename_i hn
  rw [if_neg hn]
  exact ov_mono (Sub.refl _) h a v e
theorem nc_app {c:CM} {w W W':World} {v v':Value} (_:∀k,v.ownBlock=some k→w.heap.size≤k) (hg:W.grownBy W' v.ownBlock) (hw:w.heap.size≤W.heap.size) (hb:v'.ownBlock=v.ownBlock∨∃g,v'.ownBlock=some g∧W.heap.size≤g):Sub (nc c w W [v.ownBlock]) (nc c w W' [v'.ownBlock]):=fun a u e=>by
 unfold nc at e ⊢
 split at e
 ·cases e
 ·rename_i hn
  simp only [List.mem_singleton] at hn
  unfold ov at e ⊢
  by_cases hl:a.block<w.heap.size
  ·rw [if_pos hl] at e
   rw [if_pos hl,if_neg]
   ·exact e
   ·simp only [List.mem_singleton]
    intro e2
    rcases hb with hb|⟨g,hb,hge⟩
    ·rw [hb] at e2;exact hn e2
    ·rw [hb] at e2;have:=Option.some.inj e2;omega
  ·rw [if_neg hl] at e
   rw [if_neg hl]
   have hlt:=World.block_lt_of_cell? W a e
   rw [if_neg,World.cell?_of_block (hg.block a.block hlt hn)]
   ·exact e
   ·simp only [List.mem_singleton]
    intro e2
    rcases hb with hb|⟨g,hb,hge⟩
    ·rw [hb] at e2;exact hn e2
    ·rw [hb] at e2;have:=Option.some.inj e2;omega
theorem fr_nc {c:CM} {w W:World} {X:List (Option Nat)}:Sub (fr w W X) (nc c w W X):=fun a v e=>by
 unfold fr at e
 split at e
 ·cases e
 ·rename_i hn
  unfold nc
  rw [if_neg (fun h=>hn (.inr h)),ov_new (by have:¬a.block<w.heap.size:=fun h=>hn (.inl h);omega)]
  exact e
set_option maxRecDepth 100000 in
set_option maxHeartbeats 1000000 in
theorem ref_sendC {c:CM} {v vm:Value} {l:List (List UInt8)} {ms:List Ms} (w:World) (hc:Sub c w.cell?) (hv:Nts c v l) (hms:Mss w.cell? vm ms) (hr:∀m∈ms,wrongM m=0) (hm:l.length*24+1000≤140737488355328):
  Calls Try.prog 70 #[v,vm] w fun e w'=>∃v',e=.returned v'∧Nts (ov c w w') v' (sendB l ms)∧Grow w w':=by
 have HR:=η hr
 have HV:=η hv
 have HC:=η hc
 obtain⟨av,cv,rfl,-⟩:=id hv
 obtain⟨am,cm,rfl,h1,h2,-,hel⟩:=hms
 unfold maxLen at h2
 clear hv hr hc
 go_enter Try.func70,Try.ntmps70
 go_wp2_with (first|(at_builtin;refine wpList_appc (c:=nc c w (w.alloc (.cells #[] 69)) [(Value.slice (some ⟨w.heap.size,0,none⟩) 0 0).ownBlock]) (base:=w.heap.size) (l:=[]) (m:=l) ei_bts rfl (one_Tsl Ty.byte) (by decide) rfl (.tmp 6) (.tmp 7) rfl rfl (OwnC.made0 Ty.bs _ _ _ _ ?c1 ?c1') rfl ?src ?c3 ?c4 ?_))
 case c1=>exact Nat.le_refl _
 case c1'=>rfl
 case src=>
  have hS:=nc_all (c:=c) HC.o (W:=w.alloc (.cells #[] 69)) (X:=[(Value.slice (some ⟨w.heap.size,0,none⟩) 0 0).ownBlock]) (fun k hk=>by simp [Value.ownBlock] at hk;omega)
  exact Src.of_sl_c (by decide) (nc_sub HC.o ((Grow.refl _).alloc _) _) (HV.o.mono hS)
 case c3=>simp;omega
 case c4=>simp
 intro a4 c4 w4 ho4 hg4 hb4
 have HO4:Hid (OwnC Ty.bs (nc c w w4 [(Value.slice a4 l.length c4).ownBlock]) w4 w.heap.size 69 (.slice a4 l.length c4) l):=η (by
  have hb5:(Value.slice a4 l.length c4).ownBlock=(Value.slice (some ⟨w.heap.size,0,none⟩) 0 0).ownBlock∨∃g,(Value.slice a4 l.length c4).ownBlock=some g∧(w.alloc (.cells #[] 69)).heap.size≤g:=by
   rcases hb4 with e|⟨g,e,hge⟩
   ·exact .inl (by simpa using e)
   ·exact .inr ⟨g,by simpa using e,by simpa using hge⟩
  have h9:=OwnC.mono (nc_app (own_at (Nat.le_refl _)) hg4 (by simp) hb5) (by simpa using ho4)
  exact h9)
 have G4:=η (grow_by (w0:=w) ((Grow.refl w).alloc _) hg4 (own_at (Nat.le_refl _)))
 try simp only [List.length_nil,Nat.zero_add]
 clear ho4 hg4 hb4
 go_wp2
 go_loopw [0,5] (fun bv i wr=>∃k:Nat,k≤ms.length∧i=.int .i64 k∧Grow w wr∧OwnC Ty.bs (nc c w wr [bv.ownBlock]) wr w.heap.size 69 bv (sendB l (ms.take k))) (fun _ i _=>ms.length - (intOf i).toNat)
 case atStart=>exact⟨0,by omega,rfl,G4.o,by rw [List.take_zero,sendB_nil];exact HO4.o⟩
 case round=>
  obtain⟨k,hk',rfl,hb,hown⟩:=hrel
  obtain⟨av,cv,rfl⟩:=hown.form
  by_cases hlt:k<ms.length
  ·by_cases h24:(sendB l (ms.take k)).length<24
   ·obtain⟨b,o,vp,rfl,c0,c1,c2,c3,i0,i1,i2,hP⟩:=Mss.at_ hel k hlt
    obtain⟨ap,cp,rfl,-⟩:=id hP
    replace c0:=hb.sub _ _ c0
    replace c1:=hb.sub _ _ c1
    replace c2:=hb.sub _ _ c2
    replace c3:=hb.sub _ _ c3
    have hw:=HR.o ms[k] (List.getElem_mem _)
    have HST:=η (sendB_step (l:=l) hlt)
    have HBY:=η (fun(W:World) (hW:Grow wr W)=>ref_bytes (m:=ms[k]) W ⟨_,rfl,_,rfl,i0,i1,i2,hP.mono (hb.trans hW).sub⟩ (right_kind hw) (right_len hw))
    have HOWN:=η hown
    have HB:=η hb
    clear hel hP hw hown i0 i1 i2 hb
    generalize ms[k]=m at*
    generalize sendB l (ms.take k)=lk at*
    have HST2:=η (show sendB l (ms.take (k+1))=lk++ [bytesM m] by rw [HST.o,if_pos h24])
    clear HST
    go_wp2_with fail
    refine(HBY.o _ (Grow.refl _)).mono ?_
    rintro e w2 ⟨v2,rfl,ho2,hb2⟩
    obtain⟨a2,cap2,rfl⟩:=owns_form ho2
    have HO2:=η ho2
    have HB2:=η hb2
    clear ho2 hb2
    generalize bytesM m=r at*
    go_wp2_with (first|(at_builtin;refine wpList_appc (c:=nc c w (w2.alloc (.cells #[.slice a2 r.length cap2] 69)) [(Value.slice av lk.length cv).ownBlock]) (base:=w.heap.size) (l:=lk) (m:=[r]) ei_bts rfl (one_Tsl Ty.byte) (by decide) rfl (.tmp 20) (.tmp 26) rfl rfl ?own rfl (Src.of_new (T:=Ty.bs) (x:=r) (cs:=#[.slice a2 r.length cap2]) ?d0 _ _ ?d1) ?d2 ?d3 ?_))
    case own=>exact(HOWN.o.mono (nc_grow (HB2.o.alloc _))).grow (HB2.o.alloc _)
    case d0=>
     refine⟨_,rfl,?_⟩
     have hlt2:=HOWN.o.lt
     refine Sl.mono fr_nc (bts_fr (w1:=wr) ?_ HB.o.size ?_)
     ·exact owns_grow HO2.o ((Grow.refl _).alloc _)
     ·intro q hq
      simp only [List.mem_singleton]
      intro e
      have:=(hlt2 q e.symm).2
      omega
    case d1=>simp
    case d2=>simp;omega
    case d3=>have:=(HB2.o.alloc (.cells #[.slice a2 r.length cap2] 69)).size;have:=HB.o.size;omega
    intro a5 c5 w5 hown5 hg5 hb5
    have hG5:Grow w w5:=grow_by (w0:=w) (HB.o.trans (HB2.o.alloc _)) hg5 (fun q hq=>(HOWN.o.lt q hq).1)
    have HO5:=η (hown5.mono (nc_app (fun q hq=>(HOWN.o.lt q hq).1) hg5 (by have:=HB.o.size;have:=(HB2.o.alloc (.cells #[.slice a2 r.length cap2] 69)).size;omega) (hb5.imp_right fun⟨g,e,hge⟩=>⟨g,e,by simpa using hge⟩)))
    have HG5:=η hG5
    clear hown5 hg5 hb5 hG5
    go_wp2
    go_roundw
    case rel=>exact⟨k+1,by omega,by go_num,HG5.o,by rw [HST2.o];exact HO5.o⟩
    case measure=>simp [intOf];omega
   ·have HF:=η (sendB_full (l:=l) (ms:=ms) (k:=k) (by omega))
    clear hel
    have HOWN:=η hown
    have HB:=η hb
    clear hown hb
    go_wp2
    go_ret
    exact⟨_,rfl,by rw [HF.o];exact HOWN.o.slc (by decide) (nc_ov _ _ _ _) (fun a ha=>ov_new ha),HB.o⟩
  ·clear hel
   have HOWN:=η hown
   have HB:=η hb
   have HF:Hid (sendB l (ms.take k)=sendB l ms):=η (by rw [List.take_of_length_le (by omega)])
   clear hown hb
   go_wp2
   go_ret
   exact⟨_,rfl,by rw [←HF.o];exact HOWN.o.slc (by decide) (nc_ov _ _ _ _) (fun a ha=>ov_new ha),HB.o⟩
theorem Of.st_form {c:CM} {v:Value} {kd sn:Int} {sp:List Pt} (hv:Of Ty.st c v ⟨kd,sn,sp⟩):∃ap cp,v=.agg #[.int .i64 kd,.int .i64 sn,.slice ap sp.length cp]:=by
 obtain⟨cs,rfl,vp,rfl,-,-,hp⟩:=hv
 obtain⟨ap,cp,rfl,-⟩:=id hp
 exact⟨ap,cp,rfl⟩
theorem Of.st_parts {c:CM} {a b vp:Value} {kd sn:Int} {sp:List Pt} (hv:Of Ty.st c (.agg #[a,b,vp]) ⟨kd,sn,sp⟩):I64 sn∧Sl Ty.pt c vp sp:=by
 obtain⟨cs,he,vp',rfl,-,h2,hp⟩:=hv
 simp at he
 obtain⟨-,-,rfl⟩:=he
 exact⟨h2,hp⟩
theorem WI.hdok {n:Nat} {G:Reg} {x:AW} {k:Nat} (i:WI n G x) (f:Few k x) (hk:k≤1000):HdOk x.head where
 opn:=i.core.olen
 parts:=fun o ho=>(wrong_ok (i.core.reg.ok _ (i.core.oreg o ho)).2).2.1
 heard:=fun o ho=>by have:=(i.core.onew o ho).2.2;have:=houses_short o.parts;omega
 log:=by have:=f.log;omega
 boot:=by have:=i.core.boot;omega
 next:=i.core.next
theorem ov_past {c:CM} {w W w1 w2:World} {B:Nat} (hg:w1.grownBy w2 (some B)) (_:w.heap.size≤B) (hB:B<W.heap.size):Sub (ov c W w1) (ov c W w2):=fun a v e=>by
 unfold ov at e ⊢
 split at e
 ·rw [if_pos ‹_›];exact e
 ·rw [if_neg ‹_›]
  exact cell_past e hg (by omega)
theorem ovz_sub {c:CM} {w W w7:World} (hc:Sub c w.cell?) (hW:Grow w W):Sub (ov c W w7) (ov c w w7):=fun a v e=>by
 have hs:=hW.size
 unfold ov at e ⊢
 split at e
 ·have hl:=World.block_lt_of_cell? w a (hc _ _ e)
  rw [if_pos hl];exact e
 ·rw [if_neg (by omega)];exact e
set_option maxRecDepth 100000 in
set_option maxHeartbeats 4000000 in
theorem ref_do_quit {c:CM} {v vs:Value} {x:AW} {sn:Int} {sp:List Pt} {n:Nat} {G:Reg} {k:Nat} (w:World) (hc:Sub c w.cell?) (hv:Of Ty.wd c v x) (hs:Of Ty.st c vs ⟨7,sn,sp⟩) (hi:WI n G x) (hf:Few k x) (hk:k≤1000):
  Calls Try.prog 138 #[v,vs] w fun e w'=>∃v',e=.returned (.tuple #[v',.int .i64 (doErr x ⟨7,sn,sp⟩)])∧Of Ty.wd (ov c w w') v' (doA x ⟨7,sn,sp⟩)∧Grow w w':=by
 obtain⟨al,cl,ao,co,ah,ch,an,cn,rfl⟩:=hv.wd_form
 obtain⟨ap,cp,rfl⟩:=hs.st_form
 obtain⟨q1,q2,q3⟩:=hv.wd_parts
 have HQ1:=η q1
 have HQ2:=η q2
 have HQ3:=η q3
 have HSP:=η hs.st_parts
 have HHD:=η (hi.hdok hf hk)
 have HWI:=η hi
 have HV:=η hv
 have HC:=η hc
 clear hc hv hs q1 q2 q3 hi hf
 obtain⟨wa,hwa⟩:∃y:World,y=w.alloc (.cells #[.slice al x.head.log.length cl,.int .i64 x.head.boot,.int .i64 x.head.next,.slice ao x.head.opn.length co,.slice ah x.houses.length ch,.slice an x.net.length cn] 93):=⟨_,rfl⟩
 obtain⟨wb,hwb⟩:∃y:World,y=wa.alloc (.cells #[.int .i64 7,.int .i64 sn,.slice ap sp.length cp] 164):=⟨_,rfl⟩
 obtain⟨wz,hwz⟩:∃y:World,y=wb.alloc (.cells #[.slice none 0 0,.int .i64 0,.int .i64 0,.slice none 0 0,.slice none 0 0,.slice none 0 0] 93):=⟨_,rfl⟩
 have hsa:wa.heap.size=w.heap.size+1:=by rw [hwa];simp
 have hsb:wb.heap.size=w.heap.size+2:=by rw [hwb];simp [hsa]
 have R2:Hid (wz.heap[w.heap.size]? =some (.cells #[.slice al x.head.log.length cl,.int .i64 x.head.boot,.int .i64 x.head.next,.slice ao x.head.opn.length co,.slice ah x.houses.length ch,.slice an x.net.length cn] 93 (0,0))):=η (by rw [hwz,hwb,hwa];exact heap_later (heap_later (row_new _ _) _) _)
 have R3:Hid (wz.heap[w.heap.size+1]? =some (.cells #[.int .i64 7,.int .i64 sn,.slice ap sp.length cp] 164 (0,0))):=η (by rw [hwz,hwb,←hsa];exact heap_later (row_new _ _) _)
 have R4:Hid (wz.heap[w.heap.size+2]? =some (.cells #[.slice none 0 0,.int .i64 0,.int .i64 0,.slice none 0 0,.slice none 0 0,.slice none 0 0] 93 (0,0))):=η (by rw [hwz,←hsb];exact row_new _ _)
 have G1:Hid (Grow w wz):=η (by rw [hwz,hwb,hwa];exact(((Grow.refl w).alloc _).alloc _).alloc _)
 have HZ:Hid (wz.heap.size=w.heap.size+3):=η (by rw [hwz];simp [hsb])
 go_enter Try.func138,Try.ntmps138
 go_upto_region 1 with fail
 rw [←hwa]
 try rw [hsa]
 rw [←hwb]
 try rw [hsb]
 rw [←hwz]
 clear hwa hwb hwz hsa hsb
 obtain⟨c0,c1,c2,c3,c4,c5⟩:=cells6 R2.o
 obtain⟨d0,d1,d2⟩:=cells3 R3.o
 have z2:w.heap.size<wz.heap.size:=(γ R2.o)
 have z3:w.heap.size+1<wz.heap.size:=(γ R3.o)
 go_cut [6] from 22 (fun s6 wc=>s6=.bool (there x sn)∧wz=wc)
 case first=>
  by_cases h0:0≤sn
  ·by_cases h1:sn<(x.net.length:Int)
   ·go_wp2
    go_meet
    case rel=>exact⟨by first|rfl|(simp [there,h0,h1];done),rfl⟩
   ·go_wp2
    go_meet
    case rel=>exact⟨by first|rfl|(simp [there,h0,h1];done)|(simp [there,h0];omega),rfl⟩
  ·go_wp2
   go_meet
   case rel=>exact⟨by first|rfl|(simp [there];done)|(simp [there];omega),rfl⟩
 case rest=>
 obtain⟨rfl,rfl⟩:=hcut
 have hE:doA x ⟨7,sn,sp⟩={ x with head:=quitH x.head,net:=sendA x.net (quitM x.head) }:=by unfold doA;simp
 have hE2:doErr x ⟨7,sn,sp⟩=0:=by unfold doErr;simp
 have HE:=η hE
 have HE2:=η hE2
 clear hE hE2
 go_wp2_with fail
 refine(ref_quit (c:=c) wz (HC.o.trans G1.o.sub) HQ1.o HHD.o).mono ?_
 rintro e w1 ⟨v1,v2,rfl,hx1,hx2,hb1⟩
 obtain⟨al2,cl2,ao2,co2,rfl⟩:=hx1.hd_form
 obtain⟨am,cm,rfl,-⟩:=id hx2
 have HX1:=η hx1
 have HX2:=η hx2
 have R21:=η (row_grow R2.o hb1)
 have R41:=η (row_grow R4.o hb1)
 have GZ1:=η hb1
 have HRT:=η (WI.says (HWI.o.core.quit).2.2)
 have H24:=η HWI.o.len
 clear hx1 hx2 hb1 c0 c1 c2 c3 c4 c5 d0 d1 d2 z2 z3
 generalize hqh:quitH x.head=qh at*
 generalize hqm:quitM x.head=qm at*
 clear hqh hqm
 go_upto_region 48 with fail
 obtain⟨w2,hw2⟩:∃y:World,y=w1.alloc (.cells #[.slice al2 qh.log.length cl2,.int .i64 qh.boot,.int .i64 qh.next,.slice ao2 qh.opn.length co2] 57):=⟨_,rfl⟩
 obtain⟨BH,hBH⟩:∃y,y=w1.heap.size:=⟨_,rfl⟩
 have G12:Hid (Grow w1 w2):=η (by rw [hw2];exact(Grow.refl _).alloc _)
 have RH:Hid (w2.heap[BH]? =some (.cells #[.slice al2 qh.log.length cl2,.int .i64 qh.boot,.int .i64 qh.next,.slice ao2 qh.opn.length co2] 57 (0,0))):=η (by rw [hw2,hBH];exact row_new _ _)
 have HBHN:Hid (BH≠w.heap.size):=η (by have:=(γ R41.o);omega)
 rw [←hw2,←hBH]
 clear hw2 hBH
 have R22:=η (row_grow R21.o G12.o)
 have R42:=η (row_grow R41.o G12.o)
 have GW2:=η (G1.o.trans (GZ1.o.trans G12.o))
 have HS:Hid (∀W,Grow w2 W→W.cell? ⟨BH,0,none⟩=some (.slice al2 qh.log.length cl2)∧W.cell? ⟨BH,1,none⟩=some (.int .i64 qh.boot)∧W.cell? ⟨BH,2,none⟩=some (.int .i64 qh.next)∧W.cell? ⟨BH,3,none⟩=some (.slice ao2 qh.opn.length co2)∧W.cell? ⟨w.heap.size,5,none⟩=some (.slice an x.net.length cn)):=fun W hW=>by
  obtain⟨k0,k1,k2,k3⟩:=cells4 (row_grow RH.o hW)
  obtain⟨-,-,-,-,-,j5⟩:=cells6 (row_grow R22.o hW)
  exact⟨k0,k1,k2,k3,j5⟩
 refine but_start (fun w'=>w'.cell? ⟨BH,0,none⟩=some (.slice al2 qh.log.length cl2)∧w'.cell? ⟨BH,1,none⟩=some (.int .i64 qh.boot)∧w'.cell? ⟨BH,2,none⟩=some (.int .i64 qh.next)∧w'.cell? ⟨BH,3,none⟩=some (.slice ao2 qh.opn.length co2)∧w'.cell? ⟨w.heap.size,5,none⟩=some (.slice an x.net.length cn)) 8 (by kernel_rfl) ?_
 obtain⟨wd,hWd⟩:∃x:World,x=w2.drew:=⟨_,rfl⟩
 rw [←hWd]
 have GD:Grow w2 wd:=by rw [hWd];exact(Grow.refl _).drew
 have zD:w2.heap.size=wd.heap.size:=by rw [hWd];rfl
 have ZD:=η zD
 clear hWd zD
 refine bLm [0] 12 (by kernel_rfl) (fun _ _ _ _ _ h=>h) (HS.o _ GD) ?_
 repeat (refine tNm (v:=?_) rfl (by rfl) ?_ ?_;rotate_left;(· (intro w' hSw;(try dsimp only at hSw);obtain⟨hs0,hs1,hs2,hs3,hs4⟩:=hSw;go_simp<;>with_reducible rfl));try simp only [Act.put,lzA,lzC,lzD,lzE,lzF])
 refine tEm ?_
 refine bLm [1,2,3] 12 (by kernel_rfl) (fun _ _ _ _ _ h=>h) (HS.o _ GD) ?_
 repeat (refine tNm (v:=?_) rfl (by rfl) ?_ ?_;rotate_left;(· (intro w' hSw;(try dsimp only at hSw);obtain⟨hs0,hs1,hs2,hs3,hs4⟩:=hSw;go_simp<;>with_reducible rfl));try simp only [Act.put,lzA,lzB,lzC,lzD,lzE,lzF])
 refine tEm ?_
 refine bP 4 5 (by kernel_rfl) rfl rfl ?_ ?_
 ·intro K HK
  try simp only [lzA,lzB,lzC]
  go_simp
  go_at_call 70
  refine(ref_sendC (c:=c) (l:=x.net.map bytesM) (ms:=qm) _ (HC.o.trans (GW2.o.trans GD).sub) ?nv (Sl.mono (Grow.sub (Grow.trans G12.o GD)) (Sl.mono (ov_sub (HC.o.trans G1.o.sub) GZ1.o) HX2.o)) HRT.o (by rw [List.length_map];have:=H24.o;omega)).mono ?_
  case nv=>have h9:=HQ3.o;simpa using h9
  rintro e3 w3 ⟨v3,rfl,hn3,hb3⟩
  obtain⟨a3,c3,rfl,-⟩:=id hn3
  have HN3:=η hn3
  have G3:=η (Grow.trans GD hb3)
  have GB3:=η hb3
  have ZDW:=η (GD).size
  clear hn3 hb3
  rw [send_map,List.length_map]
  refine HK.o _ _ ⟨fun _=>HS.o _ G3.o,?_⟩
  clear HK K
  try simp only [Act.put,lzA,lzB,lzC,lzD,lzE,lzF]
  refine bO 5 (by kernel_rfl) rfl ?_
  intro K HK
  try simp only [lzA,lzB,lzC]
  go_simp
  refine HK.o _ _ ⟨fun _=>HS.o _ G3.o,?_⟩
  clear HK K
  try simp only [Act.put,lzA,lzB,lzC,lzD,lzE,lzF]
  refine bO 6 (by kernel_rfl) rfl ?_
  intro K HK
  refine wanted_go rfl ?_
  try simp only [lzA,lzB,lzC]
  refine wp_store_part (.tmp 260) (.tmp 255) (p:=0) (cells:=#[.slice al2 qh.log.length cl2,.int .i64 qh.boot,.int .i64 qh.next,.slice ao2 qh.opn.length co2]) (new:=#[.slice al2 qh.log.length cl2,.int .i64 qh.boot,.int .i64 qh.next,.slice ao2 qh.opn.length co2,.slice ah x.houses.length ch,.slice an x.net.length cn]) rfl rfl (by rfl) (row_grow R22.o G3.o) info_hd (by simp) (by rfl) (by rfl) ?_
  intro w4 r4 g4
  have R44:=η r4
  have HG4:=η g4
  have HS4:Hid (w4.cell? ⟨BH,0,none⟩=some (.slice al2 qh.log.length cl2)∧w4.cell? ⟨BH,1,none⟩=some (.int .i64 qh.boot)∧w4.cell? ⟨BH,2,none⟩=some (.int .i64 qh.next)∧w4.cell? ⟨BH,3,none⟩=some (.slice ao2 qh.opn.length co2)∧w4.cell? ⟨w.heap.size,5,none⟩=some (.slice an x.net.length cn)):=η (by obtain⟨k0,k1,k2,k3,-⟩:=HS.o _ G3.o;obtain⟨-,-,-,-,-,j5⟩:=cells6 r4;have hne:BH≠w.heap.size:=HBHN.o;exact⟨cell_past k0 g4 hne,cell_past k1 g4 hne,cell_past k2 g4 hne,cell_past k3 g4 hne,j5⟩)
  clear r4 g4
  refine HK.o _ _ ⟨fun _=>HS4.o,?_⟩
  clear HK K
  try simp only [Act.put]
  refine bO 7 (by kernel_rfl) rfl ?_
  intro K HK
  try simp only [lzA,lzB,lzC]
  go_simp
  refine HK.o _ _ ⟨fun _=>HS4.o,?_⟩
  clear HK K
  try simp only [Act.put,lzA,lzB,lzC,lzD,lzE,lzF]
  refine bO 8 (by kernel_rfl) rfl ?_
  intro K HK
  refine wanted_go rfl ?_
  try simp only [lzA,lzB,lzC]
  refine wp_store_cell (.tmp 261) (.tmp 259) (v:=.slice a3 (sendA x.net qm).length c3) (new:=#[.slice al2 qh.log.length cl2,.int .i64 qh.boot,.int .i64 qh.next,.slice ao2 qh.opn.length co2,.slice ah x.houses.length ch,.slice a3 (sendA x.net qm).length c3]) rfl rfl (by rfl) (by rfl) R44.o info_nets (by simp) (by rfl) (by rfl) ?_
  intro w5 r5 g5
  have R55:=η r5
  have HG5:=η g5
  clear r5 g5
  refine HK.o _ _ ⟨fun h=>absurd rfl h,?_⟩
  clear HK K
  try simp only [Act.put]
  refine but_done (by kernel_rfl) ?_
  have R45:=η (row_by (row_by (row_grow R42.o G3.o) HG4.o (by intro e;have:=Option.some.inj e;omega)) HG5.o (by intro e;have:=Option.some.inj e;omega))
  have G5:=η (((GW2.o.trans G3.o).grown HG4.o (fun q hq=>by simp at hq;omega)).grown HG5.o (fun q hq=>by simp at hq;omega))
  obtain⟨c0,c1,c2,c3x,c4,c5⟩:=cells6 R55.o
  have z2:w.heap.size<w5.heap.size:=(γ R55.o)
  go_wp2_with (first|(refine wpList_store_row rfl (.tmp 4) (.tmp 262) rfl rfl rfl R45.o info_wd rfl rfl ?_))
  intro w7 r7 g7
  obtain⟨p0,p1,p2,p3,p4,p5⟩:=cells6 r7
  clear c0 c1 c2 c3x c4 c5
  go_wp2
  refine bodyPost_ret (v:=.tuple #[.agg #[.slice al2 qh.log.length cl2,.int .i64 qh.boot,.int .i64 qh.next,.slice ao2 qh.opn.length co2,.slice ah x.houses.length ch,.slice a3 (sendA x.net qm).length c3],.int .i64 0]) (by simp [results,Try.results138,go_sem,p0,p1,p2,p3,p4,p5]) rfl ?_
  have G7:=G5.o.grown g7 (fun q hq=>by simp at hq;omega)
  rw [HE.o,HE2.o]
  refine⟨_,rfl,Of.wd_mk ?_ (HQ2.o.mono (ov_in HC.o)) ?_,G7⟩
  ·refine HX1.o.mono fun a u e=>?_
   have e1:=ov_mono (Sub.refl _) (G12.o.trans G3.o) a u e
   have e4:=ov_past (w:=w) HG4.o (Nat.le_refl _) (by have:=HZ.o;omega) a u e1
   have e5:=ov_past (w:=w) HG5.o (Nat.le_refl _) (by have:=HZ.o;omega) a u e4
   have e7:=ov_past (w:=w) g7 (by omega) (by have:=HZ.o;omega) a u e5
   exact ovz_sub HC.o G1.o a u e7
  ·have hsz:=(γ R22.o)
   have hsz4:=(γ R42.o)
   have h9:=HN3.o
   rw [send_map] at h9
   refine Sl.mono (fun a u e=>?_) (show Nts _ _ _ from by simpa using h9)
   have hgd:=ZDW.o
   have e4:=ov_past (w:=w) HG4.o (Nat.le_refl _) (by omega) a u e
   have e5:=ov_past (w:=w) HG5.o (Nat.le_refl _) (by omega) a u e4
   have e7:=ov_past (w:=w) g7 (by omega) (by omega) a u e5
   exact ovz_sub HC.o (GW2.o.trans GD) a u e7
 ·intro K HK
  try simp only [lzA,lzB,lzC]
  go_simp
  refine HK.o _ _ ⟨fun _=>HS.o _ GD,?_⟩
  clear HK K
  try simp only [Act.put,lzA,lzB,lzC,lzD,lzE,lzF]
  refine bO 4 (by kernel_rfl) rfl ?_
  intro K HK
  try simp only [lzA,lzB,lzC]
  go_simp
  go_at_call 70
  refine(ref_sendC (c:=c) (l:=x.net.map bytesM) (ms:=qm) _ (HC.o.trans (GW2.o.trans GD).sub) ?nv (Sl.mono (Grow.sub (Grow.trans G12.o GD)) (Sl.mono (ov_sub (HC.o.trans G1.o.sub) GZ1.o) HX2.o)) HRT.o (by rw [List.length_map];have:=H24.o;omega)).mono ?_
  case nv=>have h9:=HQ3.o;simpa using h9
  rintro e3 w3 ⟨v3,rfl,hn3,hb3⟩
  obtain⟨a3,c3,rfl,-⟩:=id hn3
  have HN3:=η hn3
  have G3:=η (Grow.trans GD hb3)
  have GB3:=η hb3
  have ZDW:=η (GD).size
  clear hn3 hb3
  rw [send_map,List.length_map]
  refine HK.o _ _ ⟨fun _=>HS.o _ G3.o,?_⟩
  clear HK K
  try simp only [Act.put,lzA,lzB,lzC,lzD,lzE,lzF]
  refine bO 6 (by kernel_rfl) rfl ?_
  intro K HK
  refine wanted_go rfl ?_
  try simp only [lzA,lzB,lzC]
  refine wp_store_part (.tmp 260) (.tmp 255) (p:=0) (cells:=#[.slice al2 qh.log.length cl2,.int .i64 qh.boot,.int .i64 qh.next,.slice ao2 qh.opn.length co2]) (new:=#[.slice al2 qh.log.length cl2,.int .i64 qh.boot,.int .i64 qh.next,.slice ao2 qh.opn.length co2,.slice ah x.houses.length ch,.slice an x.net.length cn]) rfl rfl (by rfl) (row_grow R22.o G3.o) info_hd (by simp) (by rfl) (by rfl) ?_
  intro w4 r4 g4
  have R44:=η r4
  have HG4:=η g4
  have HS4:Hid (w4.cell? ⟨BH,0,none⟩=some (.slice al2 qh.log.length cl2)∧w4.cell? ⟨BH,1,none⟩=some (.int .i64 qh.boot)∧w4.cell? ⟨BH,2,none⟩=some (.int .i64 qh.next)∧w4.cell? ⟨BH,3,none⟩=some (.slice ao2 qh.opn.length co2)∧w4.cell? ⟨w.heap.size,5,none⟩=some (.slice an x.net.length cn)):=η (by obtain⟨k0,k1,k2,k3,-⟩:=HS.o _ G3.o;obtain⟨-,-,-,-,-,j5⟩:=cells6 r4;have hne:BH≠w.heap.size:=HBHN.o;exact⟨cell_past k0 g4 hne,cell_past k1 g4 hne,cell_past k2 g4 hne,cell_past k3 g4 hne,j5⟩)
  clear r4 g4
  refine HK.o _ _ ⟨fun _=>HS4.o,?_⟩
  clear HK K
  try simp only [Act.put]
  refine bO 7 (by kernel_rfl) rfl ?_
  intro K HK
  try simp only [lzA,lzB,lzC]
  go_simp
  refine HK.o _ _ ⟨fun _=>HS4.o,?_⟩
  clear HK K
  try simp only [Act.put,lzA,lzB,lzC,lzD,lzE,lzF]
  refine bO 8 (by kernel_rfl) rfl ?_
  intro K HK
  refine wanted_go rfl ?_
  try simp only [lzA,lzB,lzC]
  refine wp_store_cell (.tmp 261) (.tmp 259) (v:=.slice a3 (sendA x.net qm).length c3) (new:=#[.slice al2 qh.log.length cl2,.int .i64 qh.boot,.int .i64 qh.next,.slice ao2 qh.opn.length co2,.slice ah x.houses.length ch,.slice a3 (sendA x.net qm).length c3]) rfl rfl (by rfl) (by rfl) R44.o info_nets (by simp) (by rfl) (by rfl) ?_
  intro w5 r5 g5
  have R55:=η r5
  have HG5:=η g5
  clear r5 g5
  refine HK.o _ _ ⟨fun h=>absurd rfl h,?_⟩
  clear HK K
  try simp only [Act.put]
  refine but_done (by kernel_rfl) ?_
  have R45:=η (row_by (row_by (row_grow R42.o G3.o) HG4.o (by intro e;have:=Option.some.inj e;omega)) HG5.o (by intro e;have:=Option.some.inj e;omega))
  have G5:=η (((GW2.o.trans G3.o).grown HG4.o (fun q hq=>by simp at hq;omega)).grown HG5.o (fun q hq=>by simp at hq;omega))
  obtain⟨c0,c1,c2,c3x,c4,c5⟩:=cells6 R55.o
  have z2:w.heap.size<w5.heap.size:=(γ R55.o)
  go_wp2_with (first|(refine wpList_store_row rfl (.tmp 4) (.tmp 262) rfl rfl rfl R45.o info_wd rfl rfl ?_))
  intro w7 r7 g7
  obtain⟨p0,p1,p2,p3,p4,p5⟩:=cells6 r7
  clear c0 c1 c2 c3x c4 c5
  go_wp2
  refine bodyPost_ret (v:=.tuple #[.agg #[.slice al2 qh.log.length cl2,.int .i64 qh.boot,.int .i64 qh.next,.slice ao2 qh.opn.length co2,.slice ah x.houses.length ch,.slice a3 (sendA x.net qm).length c3],.int .i64 0]) (by simp [results,Try.results138,go_sem,p0,p1,p2,p3,p4,p5]) rfl ?_
  have G7:=G5.o.grown g7 (fun q hq=>by simp at hq;omega)
  rw [HE.o,HE2.o]
  refine⟨_,rfl,Of.wd_mk ?_ (HQ2.o.mono (ov_in HC.o)) ?_,G7⟩
  ·refine HX1.o.mono fun a u e=>?_
   have e1:=ov_mono (Sub.refl _) (G12.o.trans G3.o) a u e
   have e4:=ov_past (w:=w) HG4.o (Nat.le_refl _) (by have:=HZ.o;omega) a u e1
   have e5:=ov_past (w:=w) HG5.o (Nat.le_refl _) (by have:=HZ.o;omega) a u e4
   have e7:=ov_past (w:=w) g7 (by omega) (by have:=HZ.o;omega) a u e5
   exact ovz_sub HC.o G1.o a u e7
  ·have hsz:=(γ R22.o)
   have hsz4:=(γ R42.o)
   have h9:=HN3.o
   rw [send_map] at h9
   refine Sl.mono (fun a u e=>?_) (show Nts _ _ _ from by simpa using h9)
   have hgd:=ZDW.o
   have e4:=ov_past (w:=w) HG4.o (Nat.le_refl _) (by omega) a u e
   have e5:=ov_past (w:=w) HG5.o (Nat.le_refl _) (by omega) a u e4
   have e7:=ov_past (w:=w) g7 (by omega) (by omega) a u e5
   exact ovz_sub HC.o (GW2.o.trans GD) a u e7
theorem ov_wide {c:CM} {W W0 w1:World} (hc:Sub c W.cell?) (h0:Grow W W0):Sub (ov c W0 w1) (ov c W w1):=fun a v e=>by
 have hs:=h0.size
 unfold ov at e ⊢
 split at e
 ·have hl:=World.block_lt_of_cell? W a (hc _ _ e)
  rw [if_pos hl];exact e
 ·rw [if_neg (by omega)];exact e
theorem begin_right {n:Nat} {G:Reg} {x:AW} {P:List Pt} (i:WI n G x) (hw:wrongE P x.houses.length=0):∀m∈beginM x.head P,wrongM m=0:=by
 cases hf:fullE x.head with
 |true=>rw [(begin_full (P:=P) hf).2.1];intro m hm;simp at hm
 |false=>
  rw [i.core.len] at hw
  obtain⟨c,h1,h2⟩:=i.core.begin hw hf
  exact WI.says h2
set_option maxRecDepth 100000 in
set_option maxHeartbeats 4000000 in
theorem ref_do_beginX {c:CM} {v vs:Value} {x:AW} {sn:Int} {sp:List Pt} {n:Nat} {G:Reg} {k:Nat} (w:World) (hc:Sub c w.cell?) (hv:Of Ty.wd c v x) (hs:Of Ty.st c vs ⟨1,sn,sp⟩) (hi:WI n G x) (hf:Few k x) (hk:k≤1000) (hw:wrongE sp x.houses.length≠0):
  Calls Try.prog 138 #[v,vs] w fun e w'=>∃v',e=.returned (.tuple #[v',.int .i64 (doErr x ⟨1,sn,sp⟩)])∧Of Ty.wd (ov c w w') v' (doA x ⟨1,sn,sp⟩)∧Grow w w':=by
 obtain⟨al,cl,ao,co,ah,ch,an,cn,rfl⟩:=hv.wd_form
 obtain⟨ap,cp,rfl⟩:=hs.st_form
 obtain⟨q1,q2,q3⟩:=hv.wd_parts
 have HQ1:=η q1
 have HQ2:=η q2
 have HQ3:=η q3
 have HSP:=η hs.st_parts
 have HHD:=η (hi.hdok hf hk)
 have HWI:=η hi
 have HV:=η hv
 have HC:=η hc
 clear hc hv hs q1 q2 q3 hi hf
 obtain⟨wa,hwa⟩:∃y:World,y=w.alloc (.cells #[.slice al x.head.log.length cl,.int .i64 x.head.boot,.int .i64 x.head.next,.slice ao x.head.opn.length co,.slice ah x.houses.length ch,.slice an x.net.length cn] 93):=⟨_,rfl⟩
 obtain⟨wb,hwb⟩:∃y:World,y=wa.alloc (.cells #[.int .i64 1,.int .i64 sn,.slice ap sp.length cp] 164):=⟨_,rfl⟩
 obtain⟨wz,hwz⟩:∃y:World,y=wb.alloc (.cells #[.slice none 0 0,.int .i64 0,.int .i64 0,.slice none 0 0,.slice none 0 0,.slice none 0 0] 93):=⟨_,rfl⟩
 have hsa:wa.heap.size=w.heap.size+1:=by rw [hwa];simp
 have hsb:wb.heap.size=w.heap.size+2:=by rw [hwb];simp [hsa]
 have R2:Hid (wz.heap[w.heap.size]? =some (.cells #[.slice al x.head.log.length cl,.int .i64 x.head.boot,.int .i64 x.head.next,.slice ao x.head.opn.length co,.slice ah x.houses.length ch,.slice an x.net.length cn] 93 (0,0))):=η (by rw [hwz,hwb,hwa];exact heap_later (heap_later (row_new _ _) _) _)
 have R3:Hid (wz.heap[w.heap.size+1]? =some (.cells #[.int .i64 1,.int .i64 sn,.slice ap sp.length cp] 164 (0,0))):=η (by rw [hwz,hwb,←hsa];exact heap_later (row_new _ _) _)
 have R4:Hid (wz.heap[w.heap.size+2]? =some (.cells #[.slice none 0 0,.int .i64 0,.int .i64 0,.slice none 0 0,.slice none 0 0,.slice none 0 0] 93 (0,0))):=η (by rw [hwz,←hsb];exact row_new _ _)
 have G1:Hid (Grow w wz):=η (by rw [hwz,hwb,hwa];exact(((Grow.refl w).alloc _).alloc _).alloc _)
 have HZ:Hid (wz.heap.size=w.heap.size+3):=η (by rw [hwz];simp [hsb])
 go_enter Try.func138,Try.ntmps138
 go_upto_region 1 with fail
 rw [←hwa]
 try rw [hsa]
 rw [←hwb]
 try rw [hsb]
 rw [←hwz]
 clear hwa hwb hwz hsa hsb
 obtain⟨c0,c1,c2,c3,c4,c5⟩:=cells6 R2.o
 obtain⟨d0,d1,d2⟩:=cells3 R3.o
 have z2:w.heap.size<wz.heap.size:=(γ R2.o)
 have z3:w.heap.size+1<wz.heap.size:=(γ R3.o)
 go_cut [6] from 22 (fun s6 wc=>s6=.bool (there x sn)∧wz=wc)
 case first=>
  by_cases h0:0≤sn
  ·by_cases h1:sn<(x.net.length:Int)
   ·go_wp2
    go_meet
    case rel=>exact⟨by first|rfl|(simp [there,h0,h1];done),rfl⟩
   ·go_wp2
    go_meet
    case rel=>exact⟨by first|rfl|(simp [there,h0,h1];done)|(simp [there,h0];omega),rfl⟩
  ·go_wp2
   go_meet
   case rel=>exact⟨by first|rfl|(simp [there];done)|(simp [there];omega),rfl⟩
 case rest=>
 obtain⟨rfl,rfl⟩:=hcut
 have HE:Hid (doA x ⟨1,sn,sp⟩=x):=η (by unfold doA;simp [hw])
 have HE2:Hid (doErr x ⟨1,sn,sp⟩=wrongE sp x.houses.length):=η (by unfold doErr;simp [hw])
 have hbw:(wrongE sp x.houses.length !=0)=true:=by simp [hw]
 have HWP:=η (ref_wrongParts (h:=(x.houses.length:Int)) wz (HSP.o.2.mono (HC.o.trans G1.o.sub)))
 clear hw
 generalize wrongE sp x.houses.length=we at*
 go_wp2_with fail
 refine HWP.o.mono ?_
 rintro e w1 ⟨rfl,hb1⟩
 have R21:=η (row_grow R2.o hb1)
 have R41:=η (row_grow R4.o hb1)
 have GW1:=η (G1.o.trans hb1)
 clear hb1 c0 c1 c2 c3 c4 c5 d0 d1 d2 z2 z3
 obtain⟨c0,c1,c2,c3,c4,c5⟩:=cells6 R21.o
 have z2:w.heap.size<w1.heap.size:=(γ R21.o)
 go_wp2_with (first|(refine wpList_store_row rfl (.tmp 4) (.tmp 46) rfl rfl rfl R41.o info_wd rfl rfl ?_))
 intro w7 r7 g7
 obtain⟨p0,p1,p2,p3,p4,p5⟩:=cells6 r7
 clear c0 c1 c2 c3 c4 c5
 go_wp2
 refine bodyPost_ret (v:=.tuple #[.agg #[.slice al x.head.log.length cl,.int .i64 x.head.boot,.int .i64 x.head.next,.slice ao x.head.opn.length co,.slice ah x.houses.length ch,.slice an x.net.length cn],.int .i64 we]) (by simp [results,Try.results138,go_sem,p0,p1,p2,p3,p4,p5]) rfl ?_
 have G7:=GW1.o.grown g7 (fun q hq=>by simp at hq;omega)
 rw [HE.o,HE2.o]
 exact⟨_,rfl,HV.o.mono (ov_in HC.o),G7⟩
set_option maxRecDepth 100000 in
set_option maxHeartbeats 4000000 in
theorem ref_do_begin {c:CM} {v vs:Value} {x:AW} {sn:Int} {sp:List Pt} {n:Nat} {G:Reg} {k:Nat} (w:World) (hc:Sub c w.cell?) (hv:Of Ty.wd c v x) (hs:Of Ty.st c vs ⟨1,sn,sp⟩) (hi:WI n G x) (hf:Few k x) (hk:k≤1000) (hw:wrongE sp x.houses.length=0):
  Calls Try.prog 138 #[v,vs] w fun e w'=>∃v',e=.returned (.tuple #[v',.int .i64 (doErr x ⟨1,sn,sp⟩)])∧Of Ty.wd (ov c w w') v' (doA x ⟨1,sn,sp⟩)∧Grow w w':=by
 obtain⟨al,cl,ao,co,ah,ch,an,cn,rfl⟩:=hv.wd_form
 obtain⟨ap,cp,rfl⟩:=hs.st_form
 obtain⟨q1,q2,q3⟩:=hv.wd_parts
 have HQ1:=η q1
 have HQ2:=η q2
 have HQ3:=η q3
 have HSP:=η hs.st_parts
 have HHD:=η (hi.hdok hf hk)
 have HWI:=η hi
 have HV:=η hv
 have HC:=η hc
 clear hc hv hs q1 q2 q3 hi hf
 obtain⟨wa,hwa⟩:∃y:World,y=w.alloc (.cells #[.slice al x.head.log.length cl,.int .i64 x.head.boot,.int .i64 x.head.next,.slice ao x.head.opn.length co,.slice ah x.houses.length ch,.slice an x.net.length cn] 93):=⟨_,rfl⟩
 obtain⟨wb,hwb⟩:∃y:World,y=wa.alloc (.cells #[.int .i64 1,.int .i64 sn,.slice ap sp.length cp] 164):=⟨_,rfl⟩
 obtain⟨wz,hwz⟩:∃y:World,y=wb.alloc (.cells #[.slice none 0 0,.int .i64 0,.int .i64 0,.slice none 0 0,.slice none 0 0,.slice none 0 0] 93):=⟨_,rfl⟩
 have hsa:wa.heap.size=w.heap.size+1:=by rw [hwa];simp
 have hsb:wb.heap.size=w.heap.size+2:=by rw [hwb];simp [hsa]
 have R2:Hid (wz.heap[w.heap.size]? =some (.cells #[.slice al x.head.log.length cl,.int .i64 x.head.boot,.int .i64 x.head.next,.slice ao x.head.opn.length co,.slice ah x.houses.length ch,.slice an x.net.length cn] 93 (0,0))):=η (by rw [hwz,hwb,hwa];exact heap_later (heap_later (row_new _ _) _) _)
 have R3:Hid (wz.heap[w.heap.size+1]? =some (.cells #[.int .i64 1,.int .i64 sn,.slice ap sp.length cp] 164 (0,0))):=η (by rw [hwz,hwb,←hsa];exact heap_later (row_new _ _) _)
 have R4:Hid (wz.heap[w.heap.size+2]? =some (.cells #[.slice none 0 0,.int .i64 0,.int .i64 0,.slice none 0 0,.slice none 0 0,.slice none 0 0] 93 (0,0))):=η (by rw [hwz,←hsb];exact row_new _ _)
 have G1:Hid (Grow w wz):=η (by rw [hwz,hwb,hwa];exact(((Grow.refl w).alloc _).alloc _).alloc _)
 have HZ:Hid (wz.heap.size=w.heap.size+3):=η (by rw [hwz];simp [hsb])
 go_enter Try.func138,Try.ntmps138
 go_upto_region 1 with fail
 rw [←hwa]
 try rw [hsa]
 rw [←hwb]
 try rw [hsb]
 rw [←hwz]
 clear hwa hwb hwz hsa hsb
 obtain⟨c0,c1,c2,c3,c4,c5⟩:=cells6 R2.o
 obtain⟨d0,d1,d2⟩:=cells3 R3.o
 have z2:w.heap.size<wz.heap.size:=(γ R2.o)
 have z3:w.heap.size+1<wz.heap.size:=(γ R3.o)
 go_cut [6] from 22 (fun s6 wc=>s6=.bool (there x sn)∧wz=wc)
 case first=>
  by_cases h0:0≤sn
  ·by_cases h1:sn<(x.net.length:Int)
   ·go_wp2
    go_meet
    case rel=>exact⟨by first|rfl|(simp [there,h0,h1];done),rfl⟩
   ·go_wp2
    go_meet
    case rel=>exact⟨by first|rfl|(simp [there,h0,h1];done)|(simp [there,h0];omega),rfl⟩
  ·go_wp2
   go_meet
   case rel=>exact⟨by first|rfl|(simp [there];done)|(simp [there];omega),rfl⟩
 case rest=>
 obtain⟨rfl,rfl⟩:=hcut
 have HE:Hid (doA x ⟨1,sn,sp⟩={ x with head:=beginH x.head sp,net:=sendA x.net (beginM x.head sp) }):=η (by unfold doA;simp [hw])
 have HE2:Hid (doErr x ⟨1,sn,sp⟩=beginE x.head):=η (by unfold doErr;simp [hw])
 have HWP:=η (ref_wrongParts (h:=(x.houses.length:Int)) wz (HSP.o.2.mono (HC.o.trans G1.o.sub)))
 have h4:sp.length≤4:=(wrong_ok hw).2.1
 have HRT:Hid (∀m∈beginM x.head sp,wrongM m=0):=η (begin_right HWI.o hw)
 rw [hw] at HWP
 clear hw
 go_wp2_with fail
 refine HWP.o.mono ?_
 rintro e w0 ⟨rfl,hb0⟩
 have R20:=η (row_grow R2.o hb0)
 have R30:=η (row_grow R3.o hb0)
 have R40:=η (row_grow R4.o hb0)
 have GW0:=η (G1.o.trans hb0)
 have GZ0:=η hb0
 clear hb0 c0 c1 c2 c3 c4 c5 d0 d1 d2 z2 z3
 obtain⟨c0,c1,c2,c3,c4,c5⟩:=cells6 R20.o
 obtain⟨d0,d1,d2⟩:=cells3 R30.o
 have z2:w.heap.size<w0.heap.size:=(γ R20.o)
 have z3:w.heap.size+1<w0.heap.size:=(γ R30.o)
 go_wp2_with fail
 refine(ref_begin (c:=c) (P:=sp) w0 (HC.o.trans GW0.o.sub) HQ1.o HSP.o.2 HHD.o h4).mono ?_
 rintro e w1 ⟨v1,v2,rfl,hx1,hx2,hb1⟩
 obtain⟨al2,cl2,ao2,co2,rfl⟩:=hx1.hd_form
 obtain⟨am,cm,rfl,-⟩:=id hx2
 have HX1:=η (hx1.mono (ov_wide (HC.o.trans G1.o.sub) GZ0.o))
 have HX2:=η (hx2.mono (ov_wide (HC.o.trans G1.o.sub) GZ0.o))
 have R21:=η (row_grow R20.o hb1)
 have R41:=η (row_grow R40.o hb1)
 have GZ1:=η (GZ0.o.trans hb1)
 have H24:=η HWI.o.len
 clear hx1 hx2 hb1 c0 c1 c2 c3 c4 c5 d0 d1 d2 z2 z3
 generalize hqh:beginH x.head sp=qh at*
 generalize hqm:beginM x.head sp=qm at*
 generalize hqe:beginE x.head=qe at*
 clear hqh hqm hqe
 go_upto_region 9 with fail
 obtain⟨w2,hw2⟩:∃y:World,y=w1.alloc (.cells #[.slice al2 qh.log.length cl2,.int .i64 qh.boot,.int .i64 qh.next,.slice ao2 qh.opn.length co2] 57):=⟨_,rfl⟩
 obtain⟨BH,hBH⟩:∃y,y=w1.heap.size:=⟨_,rfl⟩
 have G12:Hid (Grow w1 w2):=η (by rw [hw2];exact(Grow.refl _).alloc _)
 have RH:Hid (w2.heap[BH]? =some (.cells #[.slice al2 qh.log.length cl2,.int .i64 qh.boot,.int .i64 qh.next,.slice ao2 qh.opn.length co2] 57 (0,0))):=η (by rw [hw2,hBH];exact row_new _ _)
 have HBHN:Hid (BH≠w.heap.size):=η (by have:=(γ R41.o);omega)
 rw [←hw2,←hBH]
 clear hw2 hBH
 have R22:=η (row_grow R21.o G12.o)
 have R42:=η (row_grow R41.o G12.o)
 have GW2:=η (G1.o.trans (GZ1.o.trans G12.o))
 have HS:Hid (∀W,Grow w2 W→W.cell? ⟨BH,0,none⟩=some (.slice al2 qh.log.length cl2)∧W.cell? ⟨BH,1,none⟩=some (.int .i64 qh.boot)∧W.cell? ⟨BH,2,none⟩=some (.int .i64 qh.next)∧W.cell? ⟨BH,3,none⟩=some (.slice ao2 qh.opn.length co2)∧W.cell? ⟨w.heap.size,5,none⟩=some (.slice an x.net.length cn)):=fun W hW=>by
  obtain⟨k0,k1,k2,k3⟩:=cells4 (row_grow RH.o hW)
  obtain⟨-,-,-,-,-,j5⟩:=cells6 (row_grow R22.o hW)
  exact⟨k0,k1,k2,k3,j5⟩
 refine but_start (fun w'=>w'.cell? ⟨BH,0,none⟩=some (.slice al2 qh.log.length cl2)∧w'.cell? ⟨BH,1,none⟩=some (.int .i64 qh.boot)∧w'.cell? ⟨BH,2,none⟩=some (.int .i64 qh.next)∧w'.cell? ⟨BH,3,none⟩=some (.slice ao2 qh.opn.length co2)∧w'.cell? ⟨w.heap.size,5,none⟩=some (.slice an x.net.length cn)) 8 (by kernel_rfl) ?_
 obtain⟨wd,hWd⟩:∃x:World,x=w2.drew:=⟨_,rfl⟩
 rw [←hWd]
 have GD:Grow w2 wd:=by rw [hWd];exact(Grow.refl _).drew
 have zD:w2.heap.size=wd.heap.size:=by rw [hWd];rfl
 have ZD:=η zD
 clear hWd zD
 refine bLm [0] 12 (by kernel_rfl) (fun _ _ _ _ _ h=>h) (HS.o _ GD) ?_
 repeat (refine tNm (v:=?_) rfl (by rfl) ?_ ?_;rotate_left;(· (intro w' hSw;(try dsimp only at hSw);obtain⟨hs0,hs1,hs2,hs3,hs4⟩:=hSw;go_simp<;>with_reducible rfl));try simp only [Act.put,lzA,lzC,lzD,lzE,lzF])
 refine tEm ?_
 refine bLm [1,2,3] 12 (by kernel_rfl) (fun _ _ _ _ _ h=>h) (HS.o _ GD) ?_
 repeat (refine tNm (v:=?_) rfl (by rfl) ?_ ?_;rotate_left;(· (intro w' hSw;(try dsimp only at hSw);obtain⟨hs0,hs1,hs2,hs3,hs4⟩:=hSw;go_simp<;>with_reducible rfl));try simp only [Act.put,lzA,lzB,lzC,lzD,lzE,lzF])
 refine tEm ?_
 refine bP 4 5 (by kernel_rfl) rfl rfl ?_ ?_
 ·intro K HK
  try simp only [lzA,lzB,lzC]
  go_simp
  go_at_call 70
  refine(ref_sendC (c:=c) (l:=x.net.map bytesM) (ms:=qm) _ (HC.o.trans (GW2.o.trans GD).sub) ?nv (Sl.mono (Grow.sub (Grow.trans G12.o GD)) (Sl.mono (ov_sub (HC.o.trans G1.o.sub) GZ1.o) HX2.o)) HRT.o (by rw [List.length_map];have:=H24.o;omega)).mono ?_
  case nv=>have h9:=HQ3.o;simpa using h9
  rintro e3 w3 ⟨v3,rfl,hn3,hb3⟩
  obtain⟨a3,c3,rfl,-⟩:=id hn3
  have HN3:=η hn3
  have G3:=η (Grow.trans GD hb3)
  have GB3:=η hb3
  have ZDW:=η (GD).size
  clear hn3 hb3
  rw [send_map,List.length_map]
  refine HK.o _ _ ⟨fun _=>HS.o _ G3.o,?_⟩
  clear HK K
  try simp only [Act.put,lzA,lzB,lzC,lzD,lzE,lzF]
  refine bO 5 (by kernel_rfl) rfl ?_
  intro K HK
  try simp only [lzA,lzB,lzC]
  go_simp
  refine HK.o _ _ ⟨fun _=>HS.o _ G3.o,?_⟩
  clear HK K
  try simp only [Act.put,lzA,lzB,lzC,lzD,lzE,lzF]
  refine bO 6 (by kernel_rfl) rfl ?_
  intro K HK
  refine wanted_go rfl ?_
  try simp only [lzA,lzB,lzC]
  refine wp_store_part (.tmp 62) (.tmp 57) (p:=0) (cells:=#[.slice al2 qh.log.length cl2,.int .i64 qh.boot,.int .i64 qh.next,.slice ao2 qh.opn.length co2]) (new:=#[.slice al2 qh.log.length cl2,.int .i64 qh.boot,.int .i64 qh.next,.slice ao2 qh.opn.length co2,.slice ah x.houses.length ch,.slice an x.net.length cn]) rfl rfl (by rfl) (row_grow R22.o G3.o) info_hd (by simp) (by rfl) (by rfl) ?_
  intro w4 r4 g4
  have R44:=η r4
  have HG4:=η g4
  have HS4:Hid (w4.cell? ⟨BH,0,none⟩=some (.slice al2 qh.log.length cl2)∧w4.cell? ⟨BH,1,none⟩=some (.int .i64 qh.boot)∧w4.cell? ⟨BH,2,none⟩=some (.int .i64 qh.next)∧w4.cell? ⟨BH,3,none⟩=some (.slice ao2 qh.opn.length co2)∧w4.cell? ⟨w.heap.size,5,none⟩=some (.slice an x.net.length cn)):=η (by obtain⟨k0,k1,k2,k3,-⟩:=HS.o _ G3.o;obtain⟨-,-,-,-,-,j5⟩:=cells6 r4;have hne:BH≠w.heap.size:=HBHN.o;exact⟨cell_past k0 g4 hne,cell_past k1 g4 hne,cell_past k2 g4 hne,cell_past k3 g4 hne,j5⟩)
  clear r4 g4
  refine HK.o _ _ ⟨fun _=>HS4.o,?_⟩
  clear HK K
  try simp only [Act.put]
  refine bO 7 (by kernel_rfl) rfl ?_
  intro K HK
  try simp only [lzA,lzB,lzC]
  go_simp
  refine HK.o _ _ ⟨fun _=>HS4.o,?_⟩
  clear HK K
  try simp only [Act.put,lzA,lzB,lzC,lzD,lzE,lzF]
  refine bO 8 (by kernel_rfl) rfl ?_
  intro K HK
  refine wanted_go rfl ?_
  try simp only [lzA,lzB,lzC]
  refine wp_store_cell (.tmp 63) (.tmp 61) (v:=.slice a3 (sendA x.net qm).length c3) (new:=#[.slice al2 qh.log.length cl2,.int .i64 qh.boot,.int .i64 qh.next,.slice ao2 qh.opn.length co2,.slice ah x.houses.length ch,.slice a3 (sendA x.net qm).length c3]) rfl rfl (by rfl) (by rfl) R44.o info_nets (by simp) (by rfl) (by rfl) ?_
  intro w5 r5 g5
  have R55:=η r5
  have HG5:=η g5
  clear r5 g5
  refine HK.o _ _ ⟨fun h=>absurd rfl h,?_⟩
  clear HK K
  try simp only [Act.put]
  refine but_done (by kernel_rfl) ?_
  have R45:=η (row_by (row_by (row_grow R42.o G3.o) HG4.o (by intro e;have:=Option.some.inj e;omega)) HG5.o (by intro e;have:=Option.some.inj e;omega))
  have G5:=η (((GW2.o.trans G3.o).grown HG4.o (fun q hq=>by simp at hq;omega)).grown HG5.o (fun q hq=>by simp at hq;omega))
  obtain⟨c0,c1,c2,c3x,c4,c5⟩:=cells6 R55.o
  have z2:w.heap.size<w5.heap.size:=(γ R55.o)
  go_wp2_with (first|(refine wpList_store_row rfl (.tmp 4) (.tmp 64) rfl rfl rfl R45.o info_wd rfl rfl ?_))
  intro w7 r7 g7
  obtain⟨p0,p1,p2,p3,p4,p5⟩:=cells6 r7
  clear c0 c1 c2 c3x c4 c5
  go_wp2
  refine bodyPost_ret (v:=.tuple #[.agg #[.slice al2 qh.log.length cl2,.int .i64 qh.boot,.int .i64 qh.next,.slice ao2 qh.opn.length co2,.slice ah x.houses.length ch,.slice a3 (sendA x.net qm).length c3],.int .i64 qe]) (by simp [results,Try.results138,go_sem,p0,p1,p2,p3,p4,p5]) rfl ?_
  have G7:=G5.o.grown g7 (fun q hq=>by simp at hq;omega)
  rw [HE.o,HE2.o]
  refine⟨_,rfl,Of.wd_mk ?_ (HQ2.o.mono (ov_in HC.o)) ?_,G7⟩
  ·refine HX1.o.mono fun a u e=>?_
   have e1:=ov_mono (Sub.refl _) (G12.o.trans G3.o) a u e
   have e4:=ov_past (w:=w) HG4.o (Nat.le_refl _) (by have:=HZ.o;omega) a u e1
   have e5:=ov_past (w:=w) HG5.o (Nat.le_refl _) (by have:=HZ.o;omega) a u e4
   have e7:=ov_past (w:=w) g7 (by omega) (by have:=HZ.o;omega) a u e5
   exact ovz_sub HC.o G1.o a u e7
  ·have hsz:=(γ R22.o)
   have hsz4:=(γ R42.o)
   have h9:=HN3.o
   rw [send_map] at h9
   refine Sl.mono (fun a u e=>?_) (show Nts _ _ _ from by simpa using h9)
   have hgd:=ZDW.o
   have e4:=ov_past (w:=w) HG4.o (Nat.le_refl _) (by omega) a u e
   have e5:=ov_past (w:=w) HG5.o (Nat.le_refl _) (by omega) a u e4
   have e7:=ov_past (w:=w) g7 (by omega) (by omega) a u e5
   exact ovz_sub HC.o (GW2.o.trans GD) a u e7
 ·intro K HK
  try simp only [lzA,lzB,lzC]
  go_simp
  refine HK.o _ _ ⟨fun _=>HS.o _ GD,?_⟩
  clear HK K
  try simp only [Act.put,lzA,lzB,lzC,lzD,lzE,lzF]
  refine bO 4 (by kernel_rfl) rfl ?_
  intro K HK
  try simp only [lzA,lzB,lzC]
  go_simp
  go_at_call 70
  refine(ref_sendC (c:=c) (l:=x.net.map bytesM) (ms:=qm) _ (HC.o.trans (GW2.o.trans GD).sub) ?nv (Sl.mono (Grow.sub (Grow.trans G12.o GD)) (Sl.mono (ov_sub (HC.o.trans G1.o.sub) GZ1.o) HX2.o)) HRT.o (by rw [List.length_map];have:=H24.o;omega)).mono ?_
  case nv=>have h9:=HQ3.o;simpa using h9
  rintro e3 w3 ⟨v3,rfl,hn3,hb3⟩
  obtain⟨a3,c3,rfl,-⟩:=id hn3
  have HN3:=η hn3
  have G3:=η (Grow.trans GD hb3)
  have GB3:=η hb3
  have ZDW:=η (GD).size
  clear hn3 hb3
  rw [send_map,List.length_map]
  refine HK.o _ _ ⟨fun _=>HS.o _ G3.o,?_⟩
  clear HK K
  try simp only [Act.put,lzA,lzB,lzC,lzD,lzE,lzF]
  refine bO 6 (by kernel_rfl) rfl ?_
  intro K HK
  refine wanted_go rfl ?_
  try simp only [lzA,lzB,lzC]
  refine wp_store_part (.tmp 62) (.tmp 57) (p:=0) (cells:=#[.slice al2 qh.log.length cl2,.int .i64 qh.boot,.int .i64 qh.next,.slice ao2 qh.opn.length co2]) (new:=#[.slice al2 qh.log.length cl2,.int .i64 qh.boot,.int .i64 qh.next,.slice ao2 qh.opn.length co2,.slice ah x.houses.length ch,.slice an x.net.length cn]) rfl rfl (by rfl) (row_grow R22.o G3.o) info_hd (by simp) (by rfl) (by rfl) ?_
  intro w4 r4 g4
  have R44:=η r4
  have HG4:=η g4
  have HS4:Hid (w4.cell? ⟨BH,0,none⟩=some (.slice al2 qh.log.length cl2)∧w4.cell? ⟨BH,1,none⟩=some (.int .i64 qh.boot)∧w4.cell? ⟨BH,2,none⟩=some (.int .i64 qh.next)∧w4.cell? ⟨BH,3,none⟩=some (.slice ao2 qh.opn.length co2)∧w4.cell? ⟨w.heap.size,5,none⟩=some (.slice an x.net.length cn)):=η (by obtain⟨k0,k1,k2,k3,-⟩:=HS.o _ G3.o;obtain⟨-,-,-,-,-,j5⟩:=cells6 r4;have hne:BH≠w.heap.size:=HBHN.o;exact⟨cell_past k0 g4 hne,cell_past k1 g4 hne,cell_past k2 g4 hne,cell_past k3 g4 hne,j5⟩)
  clear r4 g4
  refine HK.o _ _ ⟨fun _=>HS4.o,?_⟩
  clear HK K
  try simp only [Act.put]
  refine bO 7 (by kernel_rfl) rfl ?_
  intro K HK
  try simp only [lzA,lzB,lzC]
  go_simp
  refine HK.o _ _ ⟨fun _=>HS4.o,?_⟩
  clear HK K
  try simp only [Act.put,lzA,lzB,lzC,lzD,lzE,lzF]
  refine bO 8 (by kernel_rfl) rfl ?_
  intro K HK
  refine wanted_go rfl ?_
  try simp only [lzA,lzB,lzC]
  refine wp_store_cell (.tmp 63) (.tmp 61) (v:=.slice a3 (sendA x.net qm).length c3) (new:=#[.slice al2 qh.log.length cl2,.int .i64 qh.boot,.int .i64 qh.next,.slice ao2 qh.opn.length co2,.slice ah x.houses.length ch,.slice a3 (sendA x.net qm).length c3]) rfl rfl (by rfl) (by rfl) R44.o info_nets (by simp) (by rfl) (by rfl) ?_
  intro w5 r5 g5
  have R55:=η r5
  have HG5:=η g5
  clear r5 g5
  refine HK.o _ _ ⟨fun h=>absurd rfl h,?_⟩
  clear HK K
  try simp only [Act.put]
  refine but_done (by kernel_rfl) ?_
  have R45:=η (row_by (row_by (row_grow R42.o G3.o) HG4.o (by intro e;have:=Option.some.inj e;omega)) HG5.o (by intro e;have:=Option.some.inj e;omega))
  have G5:=η (((GW2.o.trans G3.o).grown HG4.o (fun q hq=>by simp at hq;omega)).grown HG5.o (fun q hq=>by simp at hq;omega))
  obtain⟨c0,c1,c2,c3x,c4,c5⟩:=cells6 R55.o
  have z2:w.heap.size<w5.heap.size:=(γ R55.o)
  go_wp2_with (first|(refine wpList_store_row rfl (.tmp 4) (.tmp 64) rfl rfl rfl R45.o info_wd rfl rfl ?_))
  intro w7 r7 g7
  obtain⟨p0,p1,p2,p3,p4,p5⟩:=cells6 r7
  clear c0 c1 c2 c3x c4 c5
  go_wp2
  refine bodyPost_ret (v:=.tuple #[.agg #[.slice al2 qh.log.length cl2,.int .i64 qh.boot,.int .i64 qh.next,.slice ao2 qh.opn.length co2,.slice ah x.houses.length ch,.slice a3 (sendA x.net qm).length c3],.int .i64 qe]) (by simp [results,Try.results138,go_sem,p0,p1,p2,p3,p4,p5]) rfl ?_
  have G7:=G5.o.grown g7 (fun q hq=>by simp at hq;omega)
  rw [HE.o,HE2.o]
  refine⟨_,rfl,Of.wd_mk ?_ (HQ2.o.mono (ov_in HC.o)) ?_,G7⟩
  ·refine HX1.o.mono fun a u e=>?_
   have e1:=ov_mono (Sub.refl _) (G12.o.trans G3.o) a u e
   have e4:=ov_past (w:=w) HG4.o (Nat.le_refl _) (by have:=HZ.o;omega) a u e1
   have e5:=ov_past (w:=w) HG5.o (Nat.le_refl _) (by have:=HZ.o;omega) a u e4
   have e7:=ov_past (w:=w) g7 (by omega) (by have:=HZ.o;omega) a u e5
   exact ovz_sub HC.o G1.o a u e7
  ·have hsz:=(γ R22.o)
   have hsz4:=(γ R42.o)
   have h9:=HN3.o
   rw [send_map] at h9
   refine Sl.mono (fun a u e=>?_) (show Nts _ _ _ from by simpa using h9)
   have hgd:=ZDW.o
   have e4:=ov_past (w:=w) HG4.o (Nat.le_refl _) (by omega) a u e
   have e5:=ov_past (w:=w) HG5.o (Nat.le_refl _) (by omega) a u e4
   have e7:=ov_past (w:=w) g7 (by omega) (by omega) a u e5
   exact ovz_sub HC.o (GW2.o.trans GD) a u e7
end Go.Proofs.Ytgbhpghgohggcaa
