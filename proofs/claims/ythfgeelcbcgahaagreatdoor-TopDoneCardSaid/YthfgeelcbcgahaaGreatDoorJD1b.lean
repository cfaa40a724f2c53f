/- The parts that laws are proved of, joined: Q4, Q5, Q6, Q7, Q8, Q9, Q10, Reg3, Reg4, T1, T2, T3, Q11, Q12. No condition beside those that each theorem names. -/
import Derived.Lib.SplitLaws
import Derived.Lib.AtoiAllCases
import Derived.Lib.ItoaMem
import Derived.Lib.ItoaLen
import Derived.Lib.Join
import Derived.WalkSmall
import Derived.Lib.AppendIntMem
import Derived.Lib.AtoiErrMem
import Derived.Test.YthfgeelcbcgahaaGreatDoorShelf
import Derived.Test.YthfgeelcbcgahaaGreatDoorJD1a
namespace Go.Proofs.YthfgeelcbcgahaaGreatDoor
open Go.RowKit
theorem hearL_none {m:Ms}:∀{l:List Opn},hearL m l=none→∀o∈l,o.deed≠m.deed
 | [],_=>by simp
 |o::l,h=>by
  unfold hearL at h
  split at h
  ·cases h
  ·rename_i hne
   intro x hx
   rcases List.mem_cons.1 hx with rfl|hx
   ·exact hne
   ·exact hearL_none (by simpa using h) x hx
theorem hearL_some {m:Ms}:∀{l:List Opn} {x:List Opn×List Rc×List Ms},hearL m l=some x→∃A o B,l=A++o::B∧(∀y∈A,y.deed≠m.deed)∧o.deed=m.deed∧x=(A++(hearO o m).1++B,(hearO o m).2)
 | [],x,h=>by cases h
 |o::l,x,h=>by
  unfold hearL at h
  split at h
  ·rename_i he
   obtain rfl:=Option.some.inj h
   exact⟨[],o,l,rfl,by simp,he,rfl⟩
  ·rename_i hne
   cases hl:hearL m l with
   |none=>rw [hl] at h;cases h
   |some y=>
    rw [hl] at h
    obtain⟨A,p,B,e1,e2,e3,e4⟩:=hearL_some hl
    refine⟨o::A,p,B,by rw [e1];rfl,?_,e3,?_⟩
    ·intro z hz
     rcases List.mem_cons.1 hz with rfl|hz
     ·exact hne
     ·exact e2 z hz
    ·simp only [Option.map_some,Option.some.injEq] at h
     rw [←h,e4]
     simp
theorem all_in:∀{a b:List Int},a.Nodup→(∀k∈a,k∈b)→b.length≤a.length→∀k∈b,k∈a
 | [],b,_,_,hl=>by
  obtain rfl:b=[]:=List.eq_nil_of_length_eq_zero (by simpa using hl)
  intro k hk;simp at hk
 |x::a,b,hn,hs,hl=>by
  rw [List.nodup_cons] at hn
  have hx:=hs x List.mem_cons_self
  have ih:=all_in (a:=a) (b:=b.erase x) hn.2 (fun k hk=>(List.mem_erase_of_ne (fun e=>hn.1 (by rw [←e];exact hk))).2 (hs k (List.mem_cons_of_mem _ hk))) (by rw [List.length_erase_of_mem hx];simp at hl;omega)
  intro k hk
  by_cases e:k=x
  ·rw [e];exact List.mem_cons_self
  ·exact List.mem_cons_of_mem _ (ih k ((List.mem_erase_of_ne e).2 hk))
theorem len_le:∀{a b:List Int},a.Nodup→(∀k∈a,k∈b)→a.length≤b.length
 | [],_,_,_=>Nat.zero_le _
 |x::a,b,hn,hs=>by
  rw [List.nodup_cons] at hn
  have hx:=hs x List.mem_cons_self
  have ih:=len_le (a:=a) (b:=b.erase x) hn.2 fun k hk=>(List.mem_erase_of_ne (fun e=>hn.1 (by rw [←e];exact hk))).2 (hs k (List.mem_cons_of_mem _ hk))
  rw [List.length_erase_of_mem hx] at ih
  have:=List.length_pos_of_mem hx
  simp only [List.length_cons]
  omega
theorem open_deed {A B:List Opn} {o x:Opn} (hn:((A++o::B).map (·.deed)).Nodup) (hx:x∈A++B):x.deed≠o.deed:=by
 rw [List.map_append,List.map_cons,List.nodup_append] at hn
 obtain⟨-,h2,h3⟩:=hn
 rw [List.nodup_cons] at h2
 rcases List.mem_append.1 hx with hx|hx
 ·intro e
  exact h3 _ (List.mem_map.2 ⟨x,hx,rfl⟩) _ (by rw [e];exact List.mem_cons_self) rfl
 ·intro e
  exact h2.1 (List.mem_map.2 ⟨x,hx,e⟩)
theorem wrongGo_zero {h:Int}:∀{l:List Pt} {had:List (Int×Int)},(∀p∈l,badPt p h=false)→(∀p∈l,(p.h,p.k)∉had)→(l.map fun p=>(p.h,p.k)).Nodup→wrongGo h had l=0
 | [],_,_,_,_=>rfl
 |p::l,had,h1,h2,h3=>by
  rw [List.map_cons,List.nodup_cons] at h3
  unfold wrongGo
  rw [if_neg (by simp [h1 p List.mem_cons_self]),if_neg (h2 p List.mem_cons_self)]
  refine wrongGo_zero (fun q hq=>h1 q (List.mem_cons_of_mem _ hq)) (fun q hq hm=>?_) h3.2
  rcases List.mem_cons.1 hm with e|hm
  ·exact h3.1 (List.mem_map.2 ⟨q,hq,e⟩)
  ·exact h2 q (List.mem_cons_of_mem _ hq) hm
theorem wrong_iff {l:List Pt} {h:Int}:wrongE l h=0↔0<l.length∧l.length≤4∧(∀p∈l,0≤p.h∧p.h<h∧0≤p.k∧p.k<4∧p.n≤1048576∧-1048576≤p.n)∧(l.map fun p=>(p.h,p.k)).Nodup:=by
 refine⟨wrong_ok,fun⟨h1,h2,h3,h4⟩=>?_⟩
 unfold wrongE
 rw [if_neg (by omega)]
 refine wrongGo_zero (fun p hp=>?_) (by simp) h4
 unfold badPt
 rw [decide_eq_false_iff_not]
 have:=h3 p hp
 omega
theorem wrong_ofL {P:List Pt} {n k:Int} (hw:wrongE P n=0) (hn:n≤3) (hne:ofL P k≠ []):wrongE (ofL P k) 3=0∧∀p∈ofL P k,p.h=k:=by
 obtain⟨h1,h2,h3,h4⟩:=wrong_ok hw
 have hs:(ofL P k).Sublist P:=List.filter_sublist
 refine⟨wrong_iff.2 ⟨List.length_pos_iff.2 hne,Nat.le_trans hs.length_le h2,fun p hp=>?_,h4.sublist (hs.map _)⟩,fun p hp=>?_⟩
 ·have:=h3 p (hs.subset hp)
  omega
 ·unfold ofL at hp
  simpa using (List.mem_filter.1 hp).2
theorem mem_swap {A B:List Opn} {o o':Opn} {p:Opn→Prop} (h:p o'↔p o):(∃x∈A++ [o']++B,p x)↔∃x∈A++o::B,p x:=by
 constructor
 ·rintro⟨x,hx,hp⟩
  simp only [List.mem_append,List.mem_singleton] at hx
  rcases hx with(hx|rfl)|hx
  ·exact⟨x,by simp [hx],hp⟩
  ·exact⟨o,by simp,h.1 hp⟩
  ·exact⟨x,by simp [hx],hp⟩
 ·rintro⟨x,hx,hp⟩
  simp only [List.mem_append,List.mem_cons] at hx
  rcases hx with hx|rfl|hx
  ·exact⟨x,by simp [hx],hp⟩
  ·exact⟨o',by simp,h.2 hp⟩
  ·exact⟨x,by simp [hx],hp⟩
theorem all_swap {A B:List Opn} {o o':Opn} {p:Opn→Prop} (h:∀x∈A++o::B,p x) (h':p o'):∀x∈A++ [o']++B,p x:=by
 intro x hx
 simp only [List.mem_append,List.mem_singleton] at hx
 rcases hx with(hx|rfl)|hx
 ·exact h x (by simp [hx])
 ·exact h'
 ·exact h x (by simp [hx])
theorem MOk.head {n:Nat} {G G':Reg} {hd hd':Hd} {hs:List Hs} {m:Ms} (h:MOk n G hd hs m) (hG:∀x∈G,x∈G') (hD:∀r∈decidedR hd.log,r∈decidedR hd'.log)
  (hy:∀o'∈hd'.opn,o'.dec=false→o'.deed=m.deed→∃o∈hd.opn,o.deed=o'.deed∧o.dec=false)
  (ha:(∀r∈decidedR hd.log,r.deed≠m.deed)→(∀o∈hd.opn,o.deed≠m.deed)→(∀r∈decidedR hd'.log,r.deed≠m.deed)∧∀o∈hd'.opn,o.deed≠m.deed):MOk n G' hd' hs m where
 right:=h.right
 here:=h.here
 reg:=by obtain⟨P,a,b⟩:=h.reg;exact⟨P,hG _ a,b⟩
 yes:=fun h2 o' ho hod hoc=>by
  obtain⟨o,a,b,c⟩:=hy o' ho hoc hod
  exact h.yes h2 o a (b.trans hod) c
 commit:=fun h4=>by obtain⟨r,a,b⟩:=h.commit h4;exact⟨r,hD r a,b⟩
 abort:=fun h5=>by
  rcases h.abort h5 with hx|hx
  ·exact .inl (ha hx.1 hx.2)
  ·exact .inr hx
 ack:=h.ack
variable {n:Nat} {G:Reg} {hd:Hd} {hs:List Hs}
theorem Core.heard (c:Core n G hd hs) {A B:List Opn} {o:Opn} (e:hd.opn=A++o::B) {k:Int} (hk:k∈housesE o.parts) (hn:k∉o.heard) (hl:o.heard.length+1≠(housesE o.parts).length)
  (h1:o.dec=false→rdy hs k o.deed) (h2:o.dec=true→dne hs k o.deed):Core n G { hd with opn:=A++ [{ o with heard:=o.heard++ [k] }]++B } hs:=by
 have ho:o∈hd.opn:=by rw [e];simp
 have hw:=c.onew o ho
 exact {
  len:=c.len,n3:=c.n3,reg:=c.reg,old:=c.old,boot:=c.boot,next:=c.next,lboot:=c.lboot,lnd:=c.lnd,ldec:=c.ldec,dec:=c.dec,held:=c.held,house:=c.house,ord:=c.ord,pre:=c.pre
  lopn:=fun d P=>by rw [c.lopn d P,e];exact(mem_swap (o:=o) (o':={ o with heard:=o.heard++ [k] }) (p:=fun x=>x.deed=d∧x.parts=P∧x.dec=true) Iff.rfl).symm
  ond:=by have:=c.ond;rw [e] at this;simpa using this
  oreg:=by have:=c.oreg;rw [e] at this;exact all_swap this (c.oreg o ho)
  olen:=by have:=c.olen;rw [e] at this;simpa using this
  odec:=by have:=c.odec;rw [e] at this;exact all_swap this (c.odec o ho)
  onew:=by
   have:=c.onew;rw [e] at this
   refine all_swap this ⟨?_,?_,?_⟩
   ·rw [List.nodup_append]
    refine⟨hw.1,by simp,fun a ha b hb e=>?_⟩
    obtain rfl:=List.mem_singleton.1 hb
    exact hn (e▸ha)
   ·intro j hj
    rcases List.mem_append.1 hj with hj|hj
    ·exact hw.2.1 j hj
    ·obtain rfl:=List.mem_singleton.1 hj;exact hk
   ·have:=hw.2.2
    rw [List.length_append,List.length_singleton]
    show _<(housesE o.parts).length
    omega
  ordy:=by
   have:=c.ordy;rw [e] at this
   refine all_swap this fun hd j hj=>?_
   rcases List.mem_append.1 hj with hj|hj
   ·exact c.ordy o ho hd j hj
   ·obtain rfl:=List.mem_singleton.1 hj;exact h1 hd
  odne:=by
   have:=c.odne;rw [e] at this
   refine all_swap this fun hd j hj=>?_
   rcases List.mem_append.1 hj with hj|hj
   ·exact c.odne o ho hd j hj
   ·obtain rfl:=List.mem_singleton.1 hj;exact h2 hd
  ends:=fun r hr hno j hj=>by
   refine c.ends r hr ?_ j hj
   rw [e]
   intro x hx
   simp only [List.mem_append,List.mem_cons] at hx
   rcases hx with hx|rfl|hx
   ·exact hno x (by simp [hx])
   ·exact hno { x with heard:=x.heard++ [k] } (by simp)
   ·exact hno x (by simp [hx]) }
theorem MOk.heard {m:Ms} (h:MOk n G hd hs m) {A B:List Opn} {o:Opn} (e:hd.opn=A++o::B) (k:Int):MOk n G { hd with opn:=A++ [{ o with heard:=o.heard++ [k] }]++B } hs m:=by
 refine h.head (fun _ h=>h) (fun _ h=>h) (fun o' ho hoc hod=>?_) fun h1 h2=>⟨h1,?_⟩
 ·simp only [List.mem_append,List.mem_singleton] at ho
  rcases ho with(ho|rfl)|ho
  ·exact⟨o',by rw [e];simp [ho],rfl,hoc⟩
  ·exact⟨o,by rw [e];simp,rfl,hoc⟩
  ·exact⟨o',by rw [e];simp [ho],rfl,hoc⟩
 ·rw [e] at h2
  exact all_swap h2 (h2 o (by simp))
theorem Core.drop (c:Core n G hd hs) {l:List Opn} (hs':l.Sublist hd.opn) (hu:∀o∈hd.opn,o∉l→o.dec=false):Core n G { hd with opn:=l } hs where
 len:=c.len
 n3:=c.n3
 reg:=c.reg
 old:=c.old
 boot:=c.boot
 next:=c.next
 lboot:=c.lboot
 lnd:=c.lnd
 ldec:=c.ldec
 dec:=c.dec
 held:=c.held
 house:=c.house
 ord:=c.ord
 pre:=c.pre
 lopn:=fun d P=>by
  rw [c.lopn d P]
  constructor
  ·rintro⟨o,ho,h1,h2,h3⟩
   refine⟨o,?_,h1,h2,h3⟩
   by_cases hl:o∈l
   ·exact hl
   ·rw [hu o ho hl] at h3;cases h3
  ·rintro⟨o,ho,h1⟩
   exact⟨o,hs'.subset ho,h1⟩
 ond:=c.ond.sublist (hs'.map _)
 oreg:=fun o ho=>c.oreg o (hs'.subset ho)
 olen:=Nat.le_trans hs'.length_le c.olen
 odec:=fun o ho=>c.odec o (hs'.subset ho)
 onew:=fun o ho=>c.onew o (hs'.subset ho)
 ordy:=fun o ho=>c.ordy o (hs'.subset ho)
 odne:=fun o ho=>c.odne o (hs'.subset ho)
 ends:=fun r hr hno=>by
  refine c.ends r hr fun o ho e=>?_
  have h1:=(c.odec o ho).2 ⟨r,hr,e.symm⟩
  by_cases hl:o∈l
  ·exact hno o hl e
  ·rw [hu o ho hl] at h1;cases h1
theorem MOk.drop {m:Ms} (h:MOk n G hd hs m) {l:List Opn} (hs':l.Sublist hd.opn):MOk n G { hd with opn:=l } hs m:=
 h.head (fun _ h=>h) (fun _ h=>h) (fun o' ho hoc _=>⟨o',hs'.subset ho,rfl,hoc⟩) fun h1 h2=>⟨h1,fun o ho=>h2 o (hs'.subset ho)⟩
theorem Core.end' (c:Core n G hd hs) {A B:List Opn} {o:Opn} (e:hd.opn=A++o::B) (hd1:o.dec=true) (hall:∀k∈housesE o.parts,dne hs k o.deed):Core n G { hd with opn:=A++B,log:=hd.log++ [⟨6,o.deed,[]⟩] } hs:=by
 have ho:o∈hd.opn:=by rw [e];simp
 have hsub:(A++B).Sublist hd.opn:=by rw [e];exact(List.Sublist.refl A).append (List.sublist_cons_self o B)
 have hon:=c.ond
 rw [e] at hon
 have hD:decidedR (hd.log++ [⟨6,o.deed,[]⟩])=decidedR hd.log:=by rw [dec_snoc];rfl
 have hL:(headR (hd.log++ [⟨6,o.deed,[]⟩])).opn=(headR hd.log).opn.filter fun x=>!(x.deed==o.deed):=by rw [head_snoc];rfl
 have hb:(headR (hd.log++ [⟨6,o.deed,[]⟩])).boot=(headR hd.log).boot:=by rw [head_snoc];rfl
 exact {
  len:=c.len,n3:=c.n3,reg:=c.reg,old:=c.old,boot:=c.boot,next:=c.next
  lboot:=by show(headR (hd.log++_)).boot=_;rw [hb];exact c.lboot
  lnd:=by show((headR (hd.log++_)).opn.map _).Nodup;rw [hL];exact c.lnd.sublist (List.filter_sublist.map _)
  ldec:=fun x hx=>by
   have hx:x∈(headR (hd.log++ [⟨6,o.deed,[]⟩])).opn:=hx
   rw [hL] at hx
   exact c.ldec x (List.mem_filter.1 hx).1
  dec:=by show DecOk G (decidedR (hd.log++_));rw [hD];exact c.dec
  held:=by show∀r∈decidedR (hd.log++_),_;rw [hD];exact c.held
  house:=by show∀(k:Nat) h,_→HI G (decidedR (hd.log++_)) k h;rw [hD];exact c.house
  ord:=by show(decidedR (hd.log++_)).Pairwise _;rw [hD];exact c.ord
  pre:=by show∀A B,decidedR (hd.log++_)=A++B→_;rw [hD];exact c.pre
  lopn:=fun d P=>by
   show(∃x∈(headR (hd.log++_)).opn,_)↔_
   rw [hL]
   constructor
   ·rintro⟨x,hx,h1,h2⟩
    obtain⟨hx1,hx2⟩:=List.mem_filter.1 hx
    obtain⟨y,hy,h3,h4,h5⟩:=(c.lopn d P).1 ⟨x,hx1,h1,h2⟩
    refine⟨y,?_,h3,h4,h5⟩
    rw [e] at hy
    simp only [List.mem_append,List.mem_cons] at hy ⊢
    rcases hy with hy|rfl|hy
    ·exact .inl hy
    ·rw [h1,h3] at hx2;simp at hx2
    ·exact .inr hy
   ·rintro⟨y,hy,h3,h4,h5⟩
    obtain⟨x,hx,h1,h2⟩:=(c.lopn d P).2 ⟨y,hsub.subset hy,h3,h4,h5⟩
    refine⟨x,List.mem_filter.2 ⟨hx,?_⟩,h1,h2⟩
    have:=open_deed hon hy
    rw [h1,←h3];simpa using this
  ond:=c.ond.sublist (hsub.map _)
  oreg:=fun o ho=>c.oreg o (hsub.subset ho)
  olen:=Nat.le_trans hsub.length_le c.olen
  odec:=fun x hx=>by show x.dec=true↔∃r∈decidedR (hd.log++_),_;rw [hD];exact c.odec x (hsub.subset hx)
  onew:=fun o ho=>c.onew o (hsub.subset ho)
  ordy:=fun o ho=>c.ordy o (hsub.subset ho)
  odne:=fun o ho=>c.odne o (hsub.subset ho)
  ends:=fun r hr hno j hj=>by
   have hr:r∈decidedR (hd.log++ [⟨6,o.deed,[]⟩]):=hr
   rw [hD] at hr
   by_cases hro:r.deed=o.deed
   ·have h1:=c.dec.reg r hr
    rw [hro] at h1 ⊢
    rw [reg_same c.reg.nd h1 (c.oreg o ho)] at hj
    exact hall j hj
   ·refine c.ends r hr ?_ j hj
    rw [e]
    intro x hx
    simp only [List.mem_append,List.mem_cons] at hx
    rcases hx with hx|rfl|hx
    ·exact hno x (by simp [hx])
    ·exact fun e=>hro e.symm
    ·exact hno x (by simp [hx]) }
theorem MOk.end' {m:Ms} (h:MOk n G hd hs m) {A B:List Opn} {o:Opn} (e:hd.opn=A++o::B):MOk n G { hd with opn:=A++B,log:=hd.log++ [⟨6,o.deed,[]⟩] } hs m:=by
 have hsub:(A++B).Sublist hd.opn:=by rw [e];exact(List.Sublist.refl A).append (List.sublist_cons_self o B)
 have hD:decidedR (hd.log++ [⟨6,o.deed,[]⟩])=decidedR hd.log:=by rw [dec_snoc];rfl
 refine h.head (fun _ h=>h) (fun r hr=>?_) (fun o' ho hoc _=>⟨o',hsub.subset ho,rfl,hoc⟩) fun h1 h2=>⟨?_,fun o ho=>h2 o (hsub.subset ho)⟩
 ·show r∈decidedR (hd.log++_)
  rw [hD];exact hr
 ·show∀r∈decidedR (hd.log++_),_
  rw [hD];exact h1
theorem pre_snoc {D A B:List Rd} {r:Rd} (h:D++ [r]=A++B):(∃B',D=A++B')∨A=D++ [r]:=by
 rcases List.eq_nil_or_concat B with rfl|⟨B',x,rfl⟩
 ·right;simpa using h.symm
 ·left
  rw [List.concat_eq_append,←List.append_assoc] at h
  exact⟨B',(List.append_inj' h rfl).1⟩
theorem Core.commit (c:Core n G hd hs) {A B:List Opn} {o:Opn} (e:hd.opn=A++o::B) (hu:o.dec=false) (hall:∀k∈housesE o.parts,rdy hs k o.deed):
  Core n G { hd with opn:=A++ [{ o with dec:=true,heard:=[] }]++B,log:=hd.log++ [⟨5,o.deed,o.parts⟩] } hs:=by
 have ho:o∈hd.opn:=by rw [e];simp
 have hoG:=c.oreg o ho
 have hw:wrongE o.parts n=0:=(c.reg.ok _ hoG).2
 have hn3:(n:Int)≤3:=by have:=c.n3;omega
 have hon:=c.ond
 rw [e] at hon
 have hD:decidedR (hd.log++ [⟨5,o.deed,o.parts⟩])=decidedR hd.log++ [⟨o.deed,o.parts⟩]:=by rw [dec_snoc];rfl
 have hL:(headR (hd.log++ [⟨5,o.deed,o.parts⟩])).opn=(headR hd.log).opn++ [⟨o.deed,o.parts,true,[]⟩]:=by rw [head_snoc];rfl
 have hb:(headR (hd.log++ [⟨5,o.deed,o.parts⟩])).boot=(headR hd.log).boot:=by rw [head_snoc];rfl
 have hnD:∀r∈decidedR hd.log,r.deed≠o.deed:=by
  intro r hr he
  have:=(c.odec o ho).2 ⟨r,hr,he⟩
  rw [hu] at this;cases this
 have hAB:∀x∈A++B,x∈hd.opn∧x.deed≠o.deed:=fun x hx=>⟨by rw [e];simp only [List.mem_append,List.mem_cons] at hx ⊢;rcases hx with hx|hx<;>simp [hx],open_deed hon hx⟩
 have hin:∀x,x∈A++ [{ o with dec:=true,heard:=[] }]++B→x={ o with dec:=true,heard:=[] }∨x∈A++B:=by
  intro x hx
  simp only [List.mem_append,List.mem_singleton] at hx ⊢
  rcases hx with(hx|hx)|hx
  ·exact .inr (.inl hx)
  ·exact .inl hx
  ·exact .inr (.inr hx)
 have hin':∀x,x∈A++B→x∈A++ [{ o with dec:=true,heard:=[] }]++B:=by
  intro x hx
  simp only [List.mem_append] at hx ⊢
  rcases hx with hx|hx
  ·exact .inl (.inl hx)
  ·exact .inr hx
 have hout:∀x∈hd.opn,x=o∨x∈A++B:=by
  intro x hx
  rw [e] at hx
  simp only [List.mem_append,List.mem_cons] at hx ⊢
  rcases hx with hx|hx|hx
  ·exact .inr (.inl hx)
  ·exact .inl hx
  ·exact .inr (.inr hx)
 have hord:∀r∈decidedR hd.log,∀k q,has k q r.parts=true→has k q o.parts=true→dne hs k r.deed:=by
  intro r hr k q h1 h2
  have hrG:=c.dec.reg r hr
  have hk1:=(has_houses (c.reg.ok _ hrG).2 hn3 h1).1
  have hk2:=(has_houses hw hn3 h2).1
  have hk0:0≤k:=(houses_lt hw hk2).1
  rcases c.held r hr k hk1 with hx|hx
  ·obtain⟨h,a1,a2,a3,-⟩:=c.ready_parts hk0 hx hrG
   obtain⟨h',b1,b2,b3,-⟩:=c.ready_parts hk0 (hall k hk2) hoG
   rw [a1] at b1
   obtain rfl:=Option.some.inj b1
   have e1:=who_deed a2.calm.apart _ a3 (has_keys h1)
   have e2:=who_deed a2.calm.apart _ b3 (has_keys h2)
   simp only at e1 e2
   exact absurd (by rw [←e1,e2]) (hnD r hr)
  ·exact hx
 exact {
  len:=c.len,n3:=c.n3,reg:=c.reg,old:=c.old,boot:=c.boot,next:=c.next
  lboot:=by show(headR (hd.log++_)).boot=_;rw [hb];exact c.lboot
  lnd:=by
   show((headR (hd.log++_)).opn.map _).Nodup
   rw [hL,List.map_append,List.nodup_append]
   refine⟨c.lnd,by simp,fun a ha b hb' he=>?_⟩
   obtain⟨x,hx,rfl⟩:=List.mem_map.1 ha
   simp only [List.map_cons,List.map_nil,List.mem_singleton] at hb'
   obtain⟨y,hy,h1,-,h3⟩:=(c.lopn x.deed x.parts).1 ⟨x,hx,rfl,rfl⟩
   rcases hout y hy with rfl|hy
   ·rw [hu] at h3;cases h3
   ·exact(hAB y hy).2 (by rw [h1,he,hb'])
  ldec:=fun x hx=>by
   have hx:x∈(headR (hd.log++ [⟨5,o.deed,o.parts⟩])).opn:=hx
   rw [hL] at hx
   rcases List.mem_append.1 hx with hx|hx
   ·exact c.ldec x hx
   ·obtain rfl:=List.mem_singleton.1 hx;exact⟨rfl,rfl⟩
  lopn:=fun d P=>by
   show(∃x∈(headR (hd.log++_)).opn,_)↔_
   rw [hL]
   constructor
   ·rintro⟨x,hx,h1,h2⟩
    rcases List.mem_append.1 hx with hx|hx
    ·obtain⟨y,hy,h3,h4,h5⟩:=(c.lopn d P).1 ⟨x,hx,h1,h2⟩
     rcases hout y hy with rfl|hy
     ·rw [hu] at h5;cases h5
     ·exact⟨y,hin' y hy,h3,h4,h5⟩
    ·obtain rfl:=List.mem_singleton.1 hx
     exact⟨{ o with dec:=true,heard:=[] },by simp,h1,h2,rfl⟩
   ·rintro⟨y,hy,h3,h4,h5⟩
    rcases hin y hy with rfl|hy
    ·exact⟨⟨o.deed,o.parts,true,[]⟩,by simp,h3,h4⟩
    ·obtain⟨x,hx,h1⟩:=(c.lopn d P).2 ⟨y,(hAB y hy).1,h3,h4,h5⟩
     exact⟨x,List.mem_append_left _ hx,h1⟩
  ond:=by simpa using hon
  oreg:=fun x hx=>by
   rcases hin x hx with rfl|hx
   ·exact hoG
   ·exact c.oreg x (hAB x hx).1
  olen:=by have:=c.olen;rw [e] at this;simpa using this
  odec:=fun x hx=>by
   show x.dec=true↔∃r∈decidedR (hd.log++_),_
   rw [hD]
   rcases hin x hx with rfl|hx
   ·exact⟨fun _=>⟨⟨o.deed,o.parts⟩,by simp,rfl⟩,fun _=>rfl⟩
   ·obtain⟨h1,h2⟩:=hAB x hx
    rw [c.odec x h1]
    constructor
    ·rintro⟨r,hr,he⟩;exact⟨r,List.mem_append_left _ hr,he⟩
    ·rintro⟨r,hr,he⟩
     rcases List.mem_append.1 hr with hr|hr
     ·exact⟨r,hr,he⟩
     ·obtain rfl:=List.mem_singleton.1 hr;exact absurd he.symm h2
  onew:=fun x hx=>by
   rcases hin x hx with rfl|hx
   ·exact⟨List.nodup_nil,by simp,houses_some hw hn3⟩
   ·exact c.onew x (hAB x hx).1
  ordy:=fun x hx hxd=>by
   rcases hin x hx with rfl|hx
   ·cases hxd
   ·exact c.ordy x (hAB x hx).1 hxd
  odne:=fun x hx hxd=>by
   rcases hin x hx with rfl|hx
   ·intro k hk;simp at hk
   ·exact c.odne x (hAB x hx).1 hxd
  dec:=by
   show DecOk G (decidedR (hd.log++_))
   rw [hD]
   refine⟨fun r hr=>?_,?_⟩
   ·rcases List.mem_append.1 hr with hr|hr
    ·exact c.dec.reg r hr
    ·obtain rfl:=List.mem_singleton.1 hr;exact hoG
   ·rw [List.map_append,List.nodup_append]
    refine⟨c.dec.nd,by simp,fun a ha b hb' he=>?_⟩
    obtain⟨r,hr,rfl⟩:=List.mem_map.1 ha
    simp only [List.map_cons,List.map_nil,List.mem_singleton] at hb'
    exact hnD r hr (he.trans hb')
  held:=by
   show∀r∈decidedR (hd.log++_),_
   rw [hD]
   intro r hr k hk
   rcases List.mem_append.1 hr with hr|hr
   ·exact c.held r hr k hk
   ·obtain rfl:=List.mem_singleton.1 hr;exact .inl (hall k hk)
  ends:=by
   show∀r∈decidedR (hd.log++_),_
   rw [hD]
   intro r hr hno
   rcases List.mem_append.1 hr with hr|hr
   ·refine c.ends r hr fun x hx=>?_
    rcases hout x hx with hx|hx
    ·rw [hx];exact fun e=>hnD r hr e.symm
    ·exact hno x (hin' x hx)
   ·obtain rfl:=List.mem_singleton.1 hr
    exact absurd rfl (hno { o with dec:=true,heard:=[] } (by simp))
  house:=by
   show∀(k:Nat) h,_→HI G (decidedR (hd.log++_)) k h
   rw [hD]
   intro k h hk
   refine(c.house k h hk).dec fun hx=>?_
   obtain⟨r,a,b⟩:=c.done_dec (k:=(k:Int)) (by omega) ⟨h,by simpa using hk,hx⟩
   exact hnD r a b
  ord:=by
   show(decidedR (hd.log++_)).Pairwise _
   rw [hD,List.pairwise_append]
   refine⟨c.ord,List.pairwise_singleton _ _,fun a ha b hb' k q h1 h2=>?_⟩
   obtain rfl:=List.mem_singleton.1 hb'
   exact hord a ha k q h1 h2
  pre:=by
   show∀A B,decidedR (hd.log++_)=A++B→_
   rw [hD]
   intro A' B' he k q
   rcases pre_snoc he with⟨B2,h1⟩|h1
   ·exact c.pre A' B2 h1 k q
   ·rw [h1,tot_app,tot,tot]
    have h2:=c.pre (decidedR hd.log) [] (by simp) k q
    show 0≤tot k q (decidedR hd.log)+(amt k q o.parts+0)∧tot k q (decidedR hd.log)+(amt k q o.parts+0)≤1048576
    cases hh:has k q o.parts with
    |false=>rw [amt_none hh];omega
    |true=>
     obtain⟨hk,q0,q1⟩:=has_houses hw hn3 hh
     have hk0:0≤k:=(houses_lt hw hk).1
     obtain⟨h,b1,b2,b3,-⟩:=c.ready_parts hk0 (hall k hk) hoG
     have hf:=(fits_sum hw b2.right k).1 (b2.fits _ b3) q q0 q1
     have ha:=b2.add q q0 q1
     rw [tot_filter] at ha
     ·rw [ha] at hf;omega
     ·intro r hr hp
      cases h3:has k q r.parts with
      |false=>exact amt_none h3
      |true=>
       obtain⟨h',c1,c2⟩:=hord r hr k q h3 hh
       rw [b1] at c1
       obtain rfl:=Option.some.inj c1
       simp [c2] at hp }
theorem MOk.commit' {m:Ms} (h:MOk n G hd hs m) (_:Core n G hd hs) {A B:List Opn} {o:Opn} (e:hd.opn=A++o::B):
  MOk n G { hd with opn:=A++ [{ o with dec:=true,heard:=[] }]++B,log:=hd.log++ [⟨5,o.deed,o.parts⟩] } hs m:=by
 have ho:o∈hd.opn:=by rw [e];simp
 have hD:decidedR (hd.log++ [⟨5,o.deed,o.parts⟩])=decidedR hd.log++ [⟨o.deed,o.parts⟩]:=by rw [dec_snoc];rfl
 refine h.head (fun _ h=>h) (fun r hr=>?_) (fun o' ho' hoc _=>?_) fun h1 h2=>⟨?_,?_⟩
 ·show r∈decidedR (hd.log++_)
  rw [hD];exact List.mem_append_left _ hr
 ·simp only [List.mem_append,List.mem_singleton] at ho'
  rcases ho' with(ho'|rfl)|ho'
  ·exact⟨o',by rw [e];simp [ho'],rfl,hoc⟩
  ·cases hoc
  ·exact⟨o',by rw [e];simp [ho'],rfl,hoc⟩
 ·show∀r∈decidedR (hd.log++_),_
  rw [hD]
  intro r hr
  rcases List.mem_append.1 hr with hr|hr
  ·exact h1 r hr
  ·obtain rfl:=List.mem_singleton.1 hr;exact h2 o ho
 ·rw [e] at h2
  exact all_swap h2 (h2 o (by simp))
variable {n:Nat} {G:Reg} {hd:Hd} {hs:List Hs}
theorem Core.deed (c:Core n G hd hs) {d:Int} {P:List Pt} (h:(d,P)∈G):0≤d∧d≤1343:=by
 have h1:=(c.reg.ok _ h).1
 have h2:=c.old _ h
 have h3:=c.boot
 have h4:=c.next
 simp only at h1 h2
 omega
theorem Core.n3' (c:Core n G hd hs):(n:Int)≤3:=by have:=c.n3;omega
theorem Core.plain (c:Core n G hd hs) {d:Int} {P:List Pt} (h:(d,P)∈G) {k:Int} (hk:k∈housesE P) {kd:Int} (h1:1<kd) (h7:kd≤7):RightM ⟨kd,d,k,[]⟩:=by
 have hd':=c.deed h
 have hk3:=houses_lt (c.reg.ok _ h).2 hk
 have:=c.n3'
 exact⟨⟨by show 1≤kd;omega,h7⟩,hd',⟨hk3.1,by show k≤2;omega⟩,fun _=>rfl,fun e=>absurd (show kd=1 from e) (by omega)⟩
theorem Core.here (c:Core n G hd hs) {d:Int} {P:List Pt} (h:(d,P)∈G) {k:Int} (hk:k∈housesE P):k<n:=(houses_lt (c.reg.ok _ h).2 hk).2
theorem asks_ok (c:Core n G hd hs) {o:Opn} (ho:o∈hd.opn):∀x∈asksE o,MOk n G hd hs x:=by
 intro x hx
 unfold asksE at hx
 obtain⟨k,hk,rfl⟩:=List.mem_map.1 hx
 have hk:=(List.mem_filter.1 hk).1
 have hG:=c.oreg o ho
 have hw:wrongE o.parts n=0:=(c.reg.ok _ hG).2
 unfold commitM
 split
 ·rename_i hdec
  exact⟨c.plain hG hk (by omega) (by omega),c.here hG hk,⟨o.parts,hG,hk,(fun e=>by cases e)⟩,(fun e=>by cases e),fun _=>(c.odec o ho).1 hdec,(fun e=>by cases e),(fun e=>by cases e)⟩
 ·have hne:=(houses_mem.1 hk).2
  have hp:=wrong_ofL hw c.n3' hne
  have hd':=c.deed hG
  have hk3:=houses_lt hw hk
  have hn:=c.n3'
  exact⟨⟨⟨by show(1:Int)≤1;omega,by show(1:Int)≤7;omega⟩,hd',⟨hk3.1,by show k≤2;omega⟩,fun e=>absurd rfl e,fun _=>hp⟩,c.here hG hk,⟨o.parts,hG,hk,fun _=>rfl⟩,(fun e=>by cases e),(fun e=>by cases e),(fun e=>by cases e),(fun e=>by cases e)⟩
theorem aborts_ok (c:Core n G hd hs) {d:Int} {P:List Pt} (hG:(d,P)∈G) (h1:∀r∈decidedR hd.log,r.deed≠d) (h2:∀o∈hd.opn,o.deed≠d):∀x∈abortsE d P,MOk n G hd hs x:=by
 intro x hx
 unfold abortsE at hx
 obtain⟨k,hk,rfl⟩:=List.mem_map.1 hx
 exact⟨c.plain hG hk (by omega) (by omega),c.here hG hk,⟨P,hG,hk,(fun e=>by cases e)⟩,(fun e=>by cases e),(fun e=>by cases e),fun _=>.inl ⟨h1,h2⟩,(fun e=>by cases e)⟩
theorem Core.begin (c:Core n G hd hs) {P:List Pt} (hw:wrongE P n=0) (hf:fullE hd=false):
  Core n ((64*hd.boot+hd.next,P)::G) (beginH hd P) hs∧(∀m,MOk n G hd hs m→MOk n ((64*hd.boot+hd.next,P)::G) (beginH hd P) hs m)∧∀m∈beginM hd P,MOk n ((64*hd.boot+hd.next,P)::G) (beginH hd P) hs m:=by
 have hfull:hd.opn.length≤11∧hd.next≤63:=by
  unfold fullE at hf
  rw [decide_eq_false_iff_not] at hf
  omega
 have e:beginH hd P={ hd with opn:=hd.opn++ [newO hd P],next:=hd.next+1 }:=by unfold beginH;rw [if_neg (by rw [hf];simp)]
 have hb:=c.boot
 have hn:=c.next
 have hnew:∀x∈G,x.1≠64*hd.boot+hd.next:=fun x hx he=>by have:=c.old x hx;omega
 have hD:∀r∈decidedR hd.log,r.deed≠64*hd.boot+hd.next:=fun r hr=>hnew _ (c.dec.reg r hr)
 have hO:∀o∈hd.opn,o.deed≠64*hd.boot+hd.next:=fun o ho=>hnew _ (c.oreg o ho)
 have hin:∀o,o∈hd.opn++ [newO hd P]→o∈hd.opn∨o=newO hd P:=fun o ho=>by simpa using ho
 have hlog:(beginH hd P).log=hd.log:=by rw [e]
 have hc:Core n ((64*hd.boot+hd.next,P)::G) (beginH hd P) hs:=by
  rw [e]
  exact {
   len:=c.len,n3:=c.n3,lboot:=c.lboot,lnd:=c.lnd,ldec:=c.ldec,boot:=c.boot
   reg:=⟨by
    rw [List.map_cons,List.nodup_cons]
    exact⟨fun h=>by obtain⟨x,hx,he⟩:=List.mem_map.1 h;exact hnew x hx he,c.reg.nd⟩,fun x hx=>by
    rcases List.mem_cons.1 hx with rfl|hx
    ·exact⟨by show 0≤64*hd.boot+hd.next;omega,hw⟩
    ·exact c.reg.ok x hx⟩
   old:=fun x hx=>by
    rcases List.mem_cons.1 hx with rfl|hx
    ·show 64*hd.boot+hd.next<64*hd.boot+(hd.next+1);omega
    ·have:=c.old x hx
     show x.1<64*hd.boot+(hd.next+1);omega
   next:=⟨by show 0≤hd.next+1;omega,by show hd.next+1≤64;omega⟩
   lopn:=fun d Q=>by
    rw [c.lopn d Q]
    constructor
    ·rintro⟨o,ho,h⟩;exact⟨o,List.mem_append_left _ ho,h⟩
    ·rintro⟨o,ho,h1,h2,h3⟩
     rcases hin o ho with ho|rfl
     ·exact⟨o,ho,h1,h2,h3⟩
     ·cases h3
   ond:=by
    rw [List.map_append,List.nodup_append]
    refine⟨c.ond,by simp,fun a ha b hb' he=>?_⟩
    obtain⟨o,ho,rfl⟩:=List.mem_map.1 ha
    simp only [List.map_cons,List.map_nil,List.mem_singleton] at hb'
    exact hO o ho (he.trans hb')
   oreg:=fun o ho=>by
    rcases hin o ho with ho|rfl
    ·exact List.mem_cons_of_mem _ (c.oreg o ho)
    ·exact List.mem_cons_self
   olen:=by rw [List.length_append];simp;omega
   odec:=fun o ho=>by
    rcases hin o ho with ho|rfl
    ·exact c.odec o ho
    ·constructor
     ·intro h;cases h
     ·rintro⟨r,hr,he⟩;exact absurd he (hD r hr)
   onew:=fun o ho=>by
    rcases hin o ho with ho|rfl
    ·exact c.onew o ho
    ·exact⟨List.nodup_nil,(fun k hk=>by cases hk),houses_some hw c.n3'⟩
   ordy:=fun o ho hd' k hk=>by
    rcases hin o ho with ho|rfl
    ·exact c.ordy o ho hd' k hk
    ·cases hk
   odne:=fun o ho hd' k hk=>by
    rcases hin o ho with ho|rfl
    ·exact c.odne o ho hd' k hk
    ·cases hk
   dec:=⟨fun r hr=>List.mem_cons_of_mem _ (c.dec.reg r hr),c.dec.nd⟩
   held:=c.held
   ends:=fun r hr hno=>c.ends r hr fun o ho=>hno o (List.mem_append_left _ ho)
   house:=fun k h hk=>(c.house k h hk).more fun x hx=>List.mem_cons_of_mem _ hx
   ord:=c.ord
   pre:=c.pre }
 refine⟨hc,fun m hm=>?_,?_⟩
 ·have hmd:m.deed≠64*hd.boot+hd.next:=by
   obtain⟨Q,hQ,-⟩:=hm.reg
   exact hnew _ hQ
  refine hm.head (fun x hx=>List.mem_cons_of_mem _ hx) (fun r hr=>by rw [hlog];exact hr) (fun o' ho' hoc hod=>?_) fun h1 h2=>⟨by rw [hlog];exact h1,fun o ho=>?_⟩
  ·rw [e] at ho'
   rcases hin o' ho' with ho'|rfl
   ·exact⟨o',ho',rfl,hoc⟩
   ·exact absurd hod.symm hmd
  ·rw [e] at ho
   rcases hin o ho with ho|rfl
   ·exact h2 o ho
   ·exact fun h=>hmd h.symm
 ·unfold beginM
  rw [if_neg (by rw [hf];simp)]
  exact asks_ok hc (by rw [e];simp)
theorem Core.fall (c:Core n G hd hs) (hb:¬19<hd.boot):Core n G (fallH hd) hs∧∀m,MOk n G hd hs m→MOk n G (fallH hd) hs m:=by
 have hb2:=c.boot
 have hn:=c.next
 have e:fallH hd={ log:=hd.log++ [⟨4,0,[]⟩],boot:=wrap64 ((headR hd.log).boot+1),next:=0,opn:=(headR hd.log).opn }:=by
  unfold fallH
  rw [if_neg hb,head_snoc]
  have:=headR_next hd.log
  unfold headStep
  simp [this.1]
 have hw:wrap64 ((headR hd.log).boot+1)=hd.boot+1:=by rw [c.lboot];unfold wrap64;omega
 rw [hw] at e
 have hD:decidedR (hd.log++ [⟨4,0,[]⟩])=decidedR hd.log:=by rw [dec_snoc];rfl
 have hL:(headR (hd.log++ [⟨4,0,[]⟩])).opn=(headR hd.log).opn:=by rw [head_snoc];rfl
 have hB:(headR (hd.log++ [⟨4,0,[]⟩])).boot=hd.boot+1:=by rw [head_snoc,←hw];rfl
 have back:∀o∈(headR hd.log).opn,∃o'∈hd.opn,o'.deed=o.deed∧o'.parts=o.parts∧o'.dec=true:=fun o ho=>(c.lopn o.deed o.parts).1 ⟨o,ho,rfl,rfl⟩
 have hc:Core n G (fallH hd) hs:=by
  rw [e]
  exact {
   len:=c.len,n3:=c.n3,reg:=c.reg
   old:=fun x hx=>by have:=c.old x hx;show x.1<64*(hd.boot+1)+0;omega
   boot:=⟨by show 1≤hd.boot+1;omega,by show hd.boot+1≤20;omega⟩
   next:=⟨Int.le_refl _,by show(0:Int)≤64;omega⟩
   lboot:=hB
   lopn:=fun d P=>by
    show(∃o∈(headR (hd.log++_)).opn,_)↔∃o∈(headR hd.log).opn,_
    rw [hL]
    constructor
    ·rintro⟨o,ho,h1,h2⟩;exact⟨o,ho,h1,h2,(c.ldec o ho).1⟩
    ·rintro⟨o,ho,h1,h2,-⟩;exact⟨o,ho,h1,h2⟩
   lnd:=by show((headR (hd.log++_)).opn.map _).Nodup;rw [hL];exact c.lnd
   ldec:=fun o ho=>by
    have ho:o∈(headR (hd.log++ [⟨4,0,[]⟩])).opn:=ho
    rw [hL] at ho
    exact c.ldec o ho
   ond:=c.lnd
   oreg:=fun o ho=>by
    obtain⟨o',h1,h2,h3,-⟩:=back o ho
    rw [←h2,←h3];exact c.oreg o' h1
   olen:=by
    have h1:((headR hd.log).opn.map (·.deed)).length≤(hd.opn.map (·.deed)).length:=len_le c.lnd fun d hd'=>by
     obtain⟨o,ho,rfl⟩:=List.mem_map.1 hd'
     obtain⟨o',h1,h2,-⟩:=back o ho
     exact List.mem_map.2 ⟨o',h1,h2⟩
    simp only [List.length_map] at h1
    exact Nat.le_trans h1 c.olen
   odec:=fun o ho=>by
    show o.dec=true↔∃r∈decidedR (hd.log++_),_
    rw [hD]
    obtain⟨o',h1,h2,-,h4⟩:=back o ho
    rw [←h2]
    exact⟨fun _=>(c.odec o' h1).1 h4,fun _=>(c.ldec o ho).1⟩
   onew:=fun o ho=>by
    obtain⟨o',h1,h2,h3,-⟩:=back o ho
    rw [(c.ldec o ho).2,←h3]
    exact⟨List.nodup_nil,(fun k hk=>by cases hk),houses_some (c.reg.ok _ (c.oreg o' h1)).2 c.n3'⟩
   ordy:=fun o ho hd'=>by rw [(c.ldec o ho).1] at hd';cases hd'
   odne:=fun o ho _ k hk=>by rw [(c.ldec o ho).2] at hk;cases hk
   dec:=by show DecOk G (decidedR (hd.log++_));rw [hD];exact c.dec
   held:=by show∀r∈decidedR (hd.log++_),_;rw [hD];exact c.held
   ends:=fun r hr hno=>by
    have hr:r∈decidedR (hd.log++ [⟨4,0,[]⟩]):=hr
    rw [hD] at hr
    refine c.ends r hr fun o ho he=>?_
    have h1:=(c.odec o ho).2 ⟨r,hr,he.symm⟩
    obtain⟨o2,h2,h3,-⟩:=(c.lopn o.deed o.parts).2 ⟨o,ho,rfl,rfl,h1⟩
    exact hno o2 h2 (h3.trans he)
   house:=by show∀(k:Nat) h,_→HI G (decidedR (hd.log++_)) k h;rw [hD];exact c.house
   ord:=by show(decidedR (hd.log++_)).Pairwise _;rw [hD];exact c.ord
   pre:=by show∀A B,decidedR (hd.log++_)=A++B→_;rw [hD];exact c.pre }
 refine⟨hc,fun m hm=>?_⟩
 have hlog:(fallH hd).log=hd.log++ [⟨4,0,[]⟩]:=by rw [e]
 have hopn:(fallH hd).opn=(headR hd.log).opn:=by rw [e]
 refine hm.head (fun _ h=>h) (fun r hr=>by rw [hlog,hD];exact hr) (fun o' ho' hoc _=>?_) fun h1 h2=>⟨by rw [hlog,hD];exact h1,fun o ho=>?_⟩
 ·rw [hopn] at ho'
  rw [(c.ldec o' ho').1] at hoc;cases hoc
 ·rw [hopn] at ho
  obtain⟨o',h3,h4,-⟩:=back o ho
  rw [←h4];exact h2 o' h3
theorem Core.quit (c:Core n G hd hs):Core n G (quitH hd) hs∧(∀m,MOk n G hd hs m→MOk n G (quitH hd) hs m)∧∀m∈quitM hd,MOk n G (quitH hd) hs m:=by
 have hs':(hd.opn.filter fun o=>o.dec).Sublist hd.opn:=List.filter_sublist
 have hc:Core n G (quitH hd) hs:=c.drop hs' fun o ho hn=>by
  cases hd':o.dec with
  |false=>rfl
  |true=>exact absurd (List.mem_filter.2 ⟨ho,hd'⟩) hn
 refine⟨hc,fun m hm=>hm.drop hs',fun m hm=>?_⟩
 unfold quitM at hm
 obtain⟨o,ho,hm⟩:=List.mem_flatMap.1 hm
 obtain⟨h1,h2⟩:=List.mem_filter.1 ho
 have hu:o.dec=false:=by simpa using h2
 refine aborts_ok hc (c.oreg o h1) (fun r hr he=>?_) (fun o' ho' he=>?_) m hm
 ·have:=(c.odec o h1).2 ⟨r,hr,he⟩
  rw [hu] at this;cases this
 ·obtain⟨h3,h4⟩:=List.mem_filter.1 ho'
  have h5:=(c.odec o' h3).1 h4
  rw [he] at h5
  have:=(c.odec o h1).2 h5
  rw [hu] at this;cases this
theorem Core.hHear (c:Core n G hd hs) {m:Ms} (hm:MOk n G hd hs m):Core n G (hHearH hd m) hs∧(∀x,MOk n G hd hs x→MOk n G (hHearH hd m) hs x)∧∀x∈hHearM hd m,MOk n G (hHearH hd m) hs x:=by
 obtain⟨P,hP,hk,-⟩:=hm.reg
 unfold hHearH hHearM
 cases hl:hearL m hd.opn with
 |none=>
  refine⟨c,fun _ h=>h,fun x hx=>?_⟩
  simp only at hx
  split at hx
  ·obtain rfl:=List.mem_singleton.1 hx
   refine⟨c.plain hP hk (by omega) (by omega),c.here hP hk,⟨P,hP,hk,(fun e=>by cases e)⟩,(fun e=>by cases e),(fun e=>by cases e),fun _=>?_,(fun e=>by cases e)⟩
   have hno:=hearL_none hl
   by_cases hD:∃r∈decidedR hd.log,r.deed=m.deed
   ·obtain⟨r,hr,he⟩:=hD
    right
    have h1:=c.dec.reg r hr
    rw [he] at h1
    have h2:=c.ends r hr (fun o ho=>by rw [he];exact hno o ho) m.house (by rw [reg_same c.reg.nd h1 hP];exact hk)
    rw [he] at h2
    exact h2
   ·exact .inl ⟨fun r hr he=>hD ⟨r,hr,he⟩,hno⟩
  ·simp at hx
 |some y=>
  obtain⟨A,o,B,e,hA,hod,rfl⟩:=hearL_some hl
  simp only
  have ho:o∈hd.opn:=by rw [e];simp
  have hoG:=c.oreg o ho
  rw [hod] at hoG
  obtain rfl:=reg_same c.reg.nd hP hoG
  have hw:wrongE o.parts n=0:=(c.reg.ok _ hoG).2
  have hnew:=c.onew o ho
  have hlast:o.heard.length+1=(housesE o.parts).length→m.house∉o.heard→∀k∈housesE o.parts,k∈o.heard++ [m.house]:=fun hl hn=>by
   refine all_in ?_ ?_ (by simp;omega)
   ·rw [List.nodup_append]
    refine⟨hnew.1,by simp,fun a ha b hb he=>?_⟩
    rw [he,List.mem_singleton.1 hb] at ha
    exact hn ha
   ·intro k hk'
    rcases List.mem_append.1 hk' with hk'|hk'
    ·exact hnew.2.1 k hk'
    ·rw [List.mem_singleton.1 hk'];exact hk
  have hsame:({ hd with opn:=A++ [o]++B,log:=hd.log++ [] }:Hd)=hd:=by
   cases hd
   simp only at e ⊢
   simp [e]
  unfold hearO
  split
  ·rename_i h2
   obtain⟨k2,hu,hin,hn⟩:=h2
   have hr:rdy hs m.house o.deed:=by rw [hod];exact hm.yes k2 o ho hod hu
   split
   ·rename_i hl1
    have hall:∀k∈housesE o.parts,rdy hs k o.deed:=fun k hk'=>by
     rcases List.mem_append.1 (hlast hl1 hn k hk') with h|h
     ·exact c.ordy o ho hu k h
     ·rw [List.mem_singleton.1 h];exact hr
    have hc:=c.commit e hu hall
    exact⟨hc,fun x hx=>hx.commit' c e,asks_ok hc (by simp)⟩
   ·rename_i hl1
    simp only [List.append_nil]
    have hc:=c.heard e hin hn hl1 (fun _=>hr) (fun h=>by rw [hu] at h;cases h)
    exact⟨hc,fun x hx=>hx.heard e _,fun x hx=>by cases hx⟩
  split
  ·rename_i h3
   obtain⟨k3,hu⟩:=h3
   simp only [List.append_nil]
   have hsub:(A++B).Sublist hd.opn:=by rw [e];exact(List.Sublist.refl A).append (List.sublist_cons_self o B)
   have hon:=c.ond
   rw [e] at hon
   have hc:=c.drop hsub fun x hx hn=>by
    rw [e] at hx
    simp only [List.mem_append,List.mem_cons] at hx hn
    rcases hx with hx|rfl|hx
    ·exact absurd (.inl hx) hn
    ·exact hu
    ·exact absurd (.inr hx) hn
   refine⟨hc,fun x hx=>hx.drop hsub,aborts_ok hc (by rw [hod];exact hoG) (fun r hr he=>?_) fun o' ho'=>open_deed hon ho'⟩
   have:=(c.odec o ho).2 ⟨r,hr,he⟩
   rw [hu] at this;cases this
  split
  ·rename_i h6
   obtain⟨k6,hu,hin,hn⟩:=h6
   have hr:dne hs m.house o.deed:=by rw [hod];exact hm.ack k6
   split
   ·rename_i hl1
    have hall:∀k∈housesE o.parts,dne hs k o.deed:=fun k hk'=>by
     rcases List.mem_append.1 (hlast hl1 hn k hk') with h|h
     ·exact c.odne o ho hu k h
     ·rw [List.mem_singleton.1 h];exact hr
    simp only [List.append_nil]
    exact⟨c.end' e hu hall,fun x hx=>hx.end' e,fun x hx=>by cases hx⟩
   ·rename_i hl1
    simp only [List.append_nil]
    exact⟨c.heard e hin hn hl1 (fun h=>by rw [hu] at h;cases h) (fun _=>hr),fun x hx=>hx.heard e _,fun x hx=>by cases hx⟩
  split
  ·rename_i h7
   obtain⟨k7,hu⟩:=h7
   rw [hsame]
   refine⟨c,fun _ h=>h,fun x hx=>?_⟩
   obtain rfl:=List.mem_singleton.1 hx
   have h1:=(c.odec o ho).1 hu
   rw [hod] at h1
   exact⟨c.plain hP hk (by omega) (by omega),c.here hP hk,⟨o.parts,hP,hk,(fun e=>by cases e)⟩,(fun e=>by cases e),fun _=>h1,(fun e=>by cases e),(fun e=>by cases e)⟩
  ·rw [hsame]
   exact⟨c,fun _ h=>h,fun x hx=>by cases hx⟩
structure WI (n:Nat) (G:Reg) (w:AW):Prop where
 core:Core n G w.head w.houses
 net:∀m∈w.net,MOk n G w.head w.houses m
 len:w.net.length≤24
theorem send_mem {net ms:List Ms} {x:Ms} (h:x∈sendA net ms):x∈net∨x∈ms:=by
 unfold sendA at h
 rcases List.mem_append.1 h with h|h
 ·exact .inl h
 ·exact .inr (List.mem_of_mem_take h)
theorem send_len {net:List Ms} (ms:List Ms) (h:net.length≤24):(sendA net ms).length≤24:=by
 unfold sendA
 rw [List.length_append,List.length_take]
 omega
theorem WI.mk' {n:Nat} {G:Reg} {hd:Hd} {hs:List Hs} {net ms:List Ms} (c:Core n G hd hs) (h1:∀m∈net,MOk n G hd hs m) (h2:∀m∈ms,MOk n G hd hs m) (hl:net.length≤24):WI n G ⟨hd,hs,sendA net ms⟩:=
 ⟨c,fun m hm=>by
  rcases send_mem hm with h|h
  ·exact h1 m h
  ·exact h2 m h,send_len ms hl⟩
theorem ticks_ok {n:Nat} {G:Reg} {hd:Hd} {hs:List Hs} (c:Core n G hd hs) {k:Nat} {h:Hs} (hk:hs[k]? =some h):∀m∈hTickE h k,MOk n G hd hs m:=by
 intro m hm
 unfold hTickE at hm
 obtain⟨r,hr,rfl⟩:=List.mem_map.1 hm
 obtain⟨P,hP,hp,hne⟩:=(c.house k h hk).reg r hr
 have hlt:=(List.getElem?_eq_some_iff.1 hk).1
 have h3:=c.n3
 have hl:=c.len
 have hin:(k:Int)∈housesE P:=houses_mem.2 ⟨by omega,by rw [←hp];exact hne⟩
 exact⟨c.plain hP hin (by omega) (by omega),c.here hP hin,⟨P,hP,hin,(fun e=>by cases e)⟩,(fun e=>by cases e),(fun e=>by cases e),(fun e=>by cases e),(fun e=>by cases e)⟩
theorem tickE_ok {n:Nat} {G:Reg} {hd:Hd} {hs:List Hs} (c:Core n G hd hs):∀m∈tickE hd,MOk n G hd hs m:=by
 intro m hm
 unfold tickE at hm
 obtain⟨o,ho,hm⟩:=List.mem_flatMap.1 hm
 exact asks_ok c ho m hm
theorem WI.come {n:Nat} {G:Reg} {w:AW} (i:WI n G w) {m:Ms} (hm:MOk n G w.head w.houses m) (hl:w.net.length≤24):WI n G (comeA w m):=by
 unfold comeA
 cases hk:w.houses[m.house.toNat]? with
 |none=>exact i
 |some h=>
  simp only
  split
  ·obtain⟨c,h1,h2⟩:=i.core.hear hm hk
   exact WI.mk' c (fun x hx=>h1 x (i.net x hx)) h2 hl
  ·obtain⟨c,h1,h2⟩:=i.core.hHear hm
   exact WI.mk' c (fun x hx=>h1 x (i.net x hx)) h2 hl
theorem WI.tick {n:Nat} {G:Reg} {w:AW} (i:WI n G w) (k:Nat):WI n G (tickA w k):=by
 unfold tickA
 split
 ·exact WI.mk' i.core i.net (tickE_ok i.core) i.len
 ·cases hk:w.houses[k]? with
  |none=>exact i
  |some h=>exact WI.mk' i.core i.net (ticks_ok i.core hk) i.len
theorem WI.drop {n:Nat} {G:Reg} {w:AW} (i:WI n G w) (k:Nat):WI n G { w with net:=w.net.eraseIdx k }:=
 ⟨i.core,fun m hm=>i.net m (List.mem_of_mem_eraseIdx hm),Nat.le_trans (List.length_eraseIdx_le _ _) i.len⟩
theorem WI.there {n:Nat} {G:Reg} {w:AW} (i:WI n G w) {k:Int} (h:there w k=true):MOk n G w.head w.houses (w.net.getD k.toNat ⟨0,0,0,[]⟩):=by
 unfold Go.Proofs.YthfgeelcbcgahaaGreatDoor.there at h
 rw [decide_eq_true_eq] at h
 have hl:k.toNat<w.net.length:=by omega
 have:w.net.getD k.toNat ⟨0,0,0,[]⟩=w.net[k.toNat]:=by rw [List.getD_eq_getElem?_getD,List.getElem?_eq_getElem hl];rfl
 rw [this]
 exact i.net _ (List.getElem_mem _)
theorem WI.step' {n:Nat} {G:Reg} {w:AW} (i:WI n G w) (s:St):∃G',WI n G' (doA w s)∧(G'=G∨(s.kind=1∧∃d,G'=(d,s.parts)::G)):=by
 unfold doA
 split
 ·rename_i k1
  split
  ·rename_i hw
   rw [i.core.len] at hw
   cases hf:fullE w.head with
   |false=>
    obtain⟨c,h1,h2⟩:=i.core.begin hw hf
    exact⟨_,WI.mk' c (fun x hx=>h1 x (i.net x hx)) h2 i.len,.inr ⟨k1,_,rfl⟩⟩
   |true=>
    refine⟨G,?_,.inl rfl⟩
    have e1:beginH w.head s.parts=w.head:=by unfold beginH;rw [if_pos hf]
    have e2:beginM w.head s.parts=[]:=by unfold beginM;rw [if_pos hf]
    rw [e1,e2]
    exact WI.mk' i.core i.net (by simp) i.len
  ·exact⟨G,i,.inl rfl⟩
 refine⟨G,?_,.inl rfl⟩
 split
 ·split
  ·rename_i ht
   have hm:=i.there ht
   have i2:=i.drop s.n.toNat
   exact i2.come (m:=w.net.getD s.n.toNat ⟨0,0,0,[]⟩) hm i2.len
  ·exact i
 split
 ·split
  ·exact i.drop _
  ·exact i
 split
 ·split
  ·rename_i ht
   refine⟨i.core,fun m hm=>?_,?_⟩
   ·rcases List.mem_append.1 hm with hm|hm
    ·exact i.net m hm
    ·rw [List.mem_singleton.1 hm];exact i.there ht.1
   ·rw [List.length_append];have:=ht.2;simp;omega
  ·exact i
 split
 ·split
  ·by_cases hb:19<w.head.boot
   ·have e:fallH w.head=w.head:=by unfold fallH;rw [if_pos hb]
    rw [e];exact i
   ·obtain⟨c,h1⟩:=i.core.fall hb
    exact⟨c,fun m hm=>h1 m (i.net m hm),i.len⟩
  ·exact i
 split
 ·split
  ·exact i.tick _
  ·exact i
 split
 ·obtain⟨c,h1,h2⟩:=i.core.quit
  exact WI.mk' c (fun x hx=>h1 x (i.net x hx)) h2 i.len
 ·exact i
theorem WI.step {n:Nat} {G:Reg} {w:AW} (i:WI n G w) (s:St):∃G',WI n G' (doA w s)∧(∀x∈G,x∈G')∧∀x∈G',x∈G∨(s.kind=1∧x.2=s.parts):=by
 obtain⟨G',i',rfl|⟨h1,d,rfl⟩⟩:=i.step' s
 ·exact⟨_,i',fun _ h=>h,fun _ h=>.inl h⟩
 ·refine⟨_,i',fun x hx=>List.mem_cons_of_mem _ hx,fun x hx=>?_⟩
  rcases List.mem_cons.1 hx with rfl|hx
  ·exact .inr ⟨h1,rfl⟩
  ·exact .inl hx
theorem WI.zero {n:Nat} (h:1≤n∧n≤3):WI n [] (newA n):=by
 refine⟨?_,by intro m hm;simp [newA] at hm,by simp [newA]⟩
 have hb:(headR [⟨4,0,[]⟩]).boot=1:=by kernel_rfl
 exact {
  len:=by simp [newA]
  n3:=h
  reg:=⟨by simp,by simp⟩
  old:=by simp
  boot:=by show 1≤(headR [⟨4,0,[]⟩]).boot∧(headR [⟨4,0,[]⟩]).boot≤20;rw [hb];omega
  next:=by show 0≤(0:Int)∧(0:Int)≤64;omega
  lboot:=rfl
  lopn:=fun d P=>by
   constructor
   ·rintro⟨o,ho,-⟩;cases ho
   ·rintro⟨o,ho,-⟩;cases ho
  lnd:=List.nodup_nil
  ldec:=fun o ho=>by cases ho
  ond:=List.nodup_nil
  oreg:=fun o ho=>by cases ho
  olen:=Nat.zero_le _
  odec:=fun o ho=>by cases ho
  onew:=fun o ho=>by cases ho
  ordy:=fun o ho=>by cases ho
  odne:=fun o ho=>by cases ho
  dec:=⟨(fun r hr=>by cases hr),List.nodup_nil⟩
  held:=fun r hr=>by cases hr
  ends:=fun r hr=>by cases hr
  house:=fun k x hx=>by
   have:x=hs0:=by
    simp only [newA] at hx
    rw [List.getElem?_replicate] at hx
    split at hx
    ·exact(Option.some.inj hx).symm
    ·cases hx
   rw [this]
   exact HI.zero _ _ _
  ord:=List.Pairwise.nil
  pre:=fun A B e k q=>by
   have hA:A=[]:=(List.append_eq_nil_iff.1 e.symm).1
   rw [hA]
   simp [tot] }
theorem WI.play {n:Nat}:∀(l:List St) {G:Reg} {w:AW},WI n G w→∃G',WI n G' (playA w l)∧(∀x∈G,x∈G')∧∀x∈G',x∈G∨∃s∈l,s.kind=1∧x.2=s.parts
 | [],G,w,i=>⟨G,i,fun _ h=>h,fun _ h=>.inl h⟩
 |s::l,G,w,i=>by
  obtain⟨G1,i1,a1,b1⟩:=i.step s
  obtain⟨G2,i2,a2,b2⟩:=WI.play l i1
  refine⟨G2,i2,fun x hx=>a2 x (a1 x hx),fun x hx=>?_⟩
  rcases b2 x hx with h|⟨t,ht,h⟩
  ·rcases b1 x h with h|h
   ·exact .inl h
   ·exact .inr ⟨s,List.mem_cons_self,h⟩
  ·exact .inr ⟨t,List.mem_cons_of_mem _ ht,h⟩
theorem WI.of_play {n:Nat} (h:1≤n∧n≤3) (l:List St):∃G,WI n G (playA (newA n) l)∧∀x∈G,∃s∈l,s.kind=1∧x.2=s.parts:=by
 obtain⟨G,i,-,b⟩:=WI.play l (WI.zero h)
 refine⟨G,i,fun x hx=>?_⟩
 rcases b x hx with h|h
 ·cases h
 ·exact h
def SumsAre (n:Nat) (A:List Rd) (sums:List Sm):Prop:=sums.length=n∧∀(k:Nat) s,sums[k]? =some s→∀q:Int,0≤q→q<4→s.get q=tot k q A
theorem Core.all {n:Nat} {G:Reg} {hd:Hd} {hs:List Hs} (c:Core n G hd hs):∀(B A:List Rd) (sums:List Sm),decidedR hd.log=A++B→SumsAre n A sums→
  (allE sums B).2=B.map (fun _=>(0:Int))∧SumsAre n (decidedR hd.log) (allE sums B).1
 | [],A,sums,e,h=>by
  rw [List.append_nil] at e
  rw [e];exact⟨rfl,h⟩
 |r::B,A,sums,e,h=>by
  have hr:r∈decidedR hd.log:=by rw [e];simp
  have hw:wrongE r.parts n=0:=(c.reg.ok _ (c.dec.reg r hr)).2
  have hright:∀(k:Nat) s,sums[k]? =some s→rightS s=true:=fun k s hs'=>rightS_get.2 fun q a b=>by
   rw [h.2 k s hs' q a b]
   exact c.pre A (r::B) e k q
  have e2:decidedR hd.log=(A++ [r])++B:=by rw [e];simp
  have hfit:∀(k:Nat) s,sums[k]? =some s→fitsE s.get (ofL r.parts ((0+k:Nat):Int))=0:=fun k s hs'=>by
   rw [Nat.zero_add]
   refine(fits_sum hw (hright k s hs') k).2 fun q a b=>?_
   have:=c.pre (A++ [r]) B e2 k q
   rw [tot_app,tot,tot,←h.2 k s hs' q a b] at this
   omega
  have hz:=errGo_zero (k0:=0) hfit
  have hda:doAllE sums r.parts=(putGo r.parts 0 sums,0):=by unfold doAllE;rw [if_pos hz]
  have h2:SumsAre n (A++ [r]) (putGo r.parts 0 sums):=by
   refine⟨by rw [putGo_len];exact h.1,fun k s hs' q a b=>?_⟩
   rw [putGo_get] at hs'
   cases hk:sums[k]? with
   |none=>rw [hk] at hs';simp at hs'
   |some t=>
    rw [hk] at hs'
    simp only [Option.map_some,Option.some.injEq,Nat.zero_add] at hs'
    rw [←hs',doP_sum hw (hright k t hk) k a b,h.2 k t hk q a b,tot_app,tot,tot]
    omega
  obtain⟨i1,i2⟩:=Core.all c B (A++ [r]) _ e2 h2
  show(doAllE sums r.parts).2::(allE (doAllE sums r.parts).1 B).2=0::B.map (fun _=>(0:Int))∧SumsAre n _ (allE (doAllE sums r.parts).1 B).1
  rw [hda]
  exact⟨by rw [i1],i2⟩
theorem zero_sums (n:Nat):SumsAre n [] (List.replicate n ⟨0,0,0,0⟩):=by
 refine⟨by simp,fun k s hs' q a b=>?_⟩
 rw [List.getElem?_replicate] at hs'
 split at hs'
 ·obtain rfl:=Option.some.inj hs'
  have hq:q=0∨q=1∨q=2∨q=3:=by omega
  rcases hq with rfl|rfl|rfl|rfl<;>rfl
 ·cases hs'
theorem Core.even {n:Nat} {G:Reg} {hd:Hd} {hs:List Hs} (c:Core n G hd hs) (hall:∀r∈decidedR hd.log,∀k∈housesE r.parts,dne hs k r.deed):
  allE (List.replicate n ⟨0,0,0,0⟩) (decidedR hd.log)=(hs.map (·.sums),(decidedR hd.log).map fun _=>(0:Int)):=by
 obtain⟨h1,h2,h3⟩:=c.all (decidedR hd.log) [] _ rfl (zero_sums n)
 refine Prod.ext ?_ h1
 refine List.ext_getElem? fun k=>?_
 rw [List.getElem?_map]
 cases hk:(allE (List.replicate n ⟨0,0,0,0⟩) (decidedR hd.log)).1[k]? with
 |none=>
  have:n≤k:=by rw [←h2];exact List.getElem?_eq_none_iff.1 hk
  rw [List.getElem?_eq_none (by rw [c.len];exact this)];rfl
 |some s=>
  have hlt:k<n:=by rw [←h2];exact(List.getElem?_eq_some_iff.1 hk).1
  have hl:k<hs.length:=by rw [c.len];exact hlt
  have hh:hs[k]? =some hs[k]:=List.getElem?_eq_getElem hl
  rw [hh]
  simp only [Option.map_some,Option.some.injEq]
  refine Sm.ext_get fun q a b=>?_
  rw [h3 k s hk q a b,(c.house k _ hh).add q a b]
  symm
  refine tot_filter fun r hr hp=>?_
  cases hh2:has k q r.parts with
  |false=>exact amt_none hh2
  |true=>
   have hw:wrongE r.parts n=0:=(c.reg.ok _ (c.dec.reg r hr)).2
   obtain⟨x,hx,hd'⟩:=hall r hr k (has_houses hw c.n3' hh2).1
   have:x=hs[k]:=by
    rw [show((k:Int)).toNat=k from rfl,hh] at hx
    exact(Option.some.inj hx).symm
   rw [this] at hd'
   simp [hd'] at hp
theorem Core.settled {n:Nat} {G:Reg} {hd:Hd} {hs:List Hs} (c:Core n G hd hs) (ho:hd.opn=[]):∀r∈decidedR hd.log,∀k∈housesE r.parts,dne hs k r.deed:=
 fun r hr=>c.ends r hr fun o h=>by rw [ho] at h;cases h
def wt (m:Ms):Nat:=if m.kind=1 then 8 else if m.kind=2 then 7 else if m.kind=3 then 4 else if m.kind=4 then 2 else if m.kind=7 then 3 else 1
def wts:List Ms→Nat
 | []=>0
 |m::l=>wt m+wts l
theorem wts_app:∀a b:List Ms,wts (a++b)=wts a+wts b
 | [],b=>by simp [wts]
 |m::a,b=>by rw [List.cons_append,wts,wts,wts_app a b];omega
theorem wts_take:∀(l:List Ms) (k:Nat),wts (l.take k)≤wts l
 | [],k=>by simp [wts]
 |m::l,0=>by simp [wts]
 |m::l,k+1=>by rw [List.take_succ_cons,wts,wts];have:=wts_take l k;omega
theorem wts_send (net ms:List Ms):wts (sendA net ms)≤wts net+wts ms:=by
 unfold sendA
 rw [wts_app]
 have:=wts_take ms (24 - net.length)
 omega
theorem wts_all {c:Nat}:∀{l:List Ms},(∀m∈l,wt m≤c)→wts l≤l.length*c
 | [],_=>by simp [wts]
 |m::l,h=>by
  have h1:=h m List.mem_cons_self
  have h2:=wts_all (l:=l) fun x hx=>h x (List.mem_cons_of_mem _ hx)
  rw [wts,List.length_cons,Nat.add_mul]
  omega
theorem wt_pos (m:Ms):1≤wt m:=by
 unfold wt
 split
 ·omega
 split
 ·omega
 split
 ·omega
 split
 ·omega
 split
 ·omega
 ·omega
theorem houses_len (P:List Pt):(housesE P).length≤3:=by
 unfold housesE
 exact Nat.le_trans (List.length_filter_le _ _) (by decide)
theorem hear_wt (h:Hs) (me:Int) (m:Ms):wts (hearM h me m)<wt m:=by
 unfold hearM
 split
 ·rename_i h1
  have:wt m=8:=by unfold wt;rw [if_pos h1]
  split
  ·rw [this];simp [wts]
  ·split
   ·rw [this];simp [wts,sayE,wt]
   ·rw [this];simp [wts,sayE,wt]
 ·split
  ·rename_i h4
   have:wt m=2:=by unfold wt;simp [h4]
   split
   ·rw [this];simp [wts,sayE,wt]
   ·rw [this];simp [wts]
  ·have:=wt_pos m
   simp only [wts];omega
theorem hearO_wt (o:Opn) (m:Ms):wts (hearO o m).2.2<wt m:=by
 have hp:=wt_pos m
 unfold hearO
 split
 ·rename_i h2
  have:wt m=7:=by unfold wt;simp [h2.1]
  split
  ·have h3:wts (asksE { o with dec:=true,heard:=[] })≤(asksE { o with dec:=true,heard:=[] }).length*2:=wts_all fun x hx=>by
    unfold asksE at hx
    obtain⟨k,-,rfl⟩:=List.mem_map.1 hx
    simp [commitM,wt]
   have h4:(asksE { o with dec:=true,heard:=[] }).length≤3:=by
    unfold asksE
    rw [List.length_map]
    exact Nat.le_trans (List.length_filter_le _ _) (houses_len _)
   show wts (asksE _)<_
   omega
  ·show wts []<_
   simp only [wts];omega
 split
 ·rename_i h3
  have:wt m=4:=by unfold wt;simp [h3.1]
  have h3:wts (abortsE o.deed o.parts)≤(abortsE o.deed o.parts).length*1:=wts_all fun x hx=>by
   unfold abortsE at hx
   obtain⟨k,-,rfl⟩:=List.mem_map.1 hx
   simp [wt]
  have h4:(abortsE o.deed o.parts).length≤3:=by
   unfold abortsE
   rw [List.length_map]
   exact houses_len _
  show wts (abortsE _ _)<_
  omega
 split
 ·split
  ·show wts []<_
   simp only [wts];omega
  ·show wts []<_
   simp only [wts];omega
 split
 ·rename_i h7
  have:wt m=3:=by unfold wt;simp [h7.1]
  rw [this]
  simp [wts,wt]
 ·show wts []<_
  simp only [wts];omega
theorem hHear_wt (h:Hd) (m:Ms):wts (hHearM h m)<wt m:=by
 have hp:=wt_pos m
 unfold hHearM
 cases hl:hearL m h.opn with
 |none=>
  simp only
  split
  ·rename_i h7
   have:wt m=3:=by unfold wt;simp [h7]
   rw [this]
   simp [wts,wt]
  ·simp only [wts];omega
 |some x=>
  obtain⟨A,o,B,-,-,-,rfl⟩:=hearL_some hl
  exact hearO_wt o m
theorem come_wt (w:AW) (m:Ms):wts (comeA w m).net<wts w.net+wt m:=by
 have hp:=wt_pos m
 unfold comeA
 cases w.houses[m.house.toNat]? with
 |none=>simp only;omega
 |some h=>
  simp only
  split
  ·have h1:=wts_send w.net (hearM h m.house m)
   have h2:=hear_wt h m.house m
   show wts (sendA _ _)<_
   omega
  ·have h1:=wts_send w.net (hHearM w.head m)
   have h2:=hHear_wt w.head m
   show wts (sendA _ _)<_
   omega
def drainN:Nat→AW→AW
 |0,w=>w
 |f+1,w=>match w.net with
  | []=>w
  |m::l=>drainN f (comeA { w with net:=l } m)
def drainA (w:AW):AW:=drainN (wts w.net) w
theorem drain_step {w:AW} {m:Ms} {l:List Ms} (h:w.net=m::l):wts (comeA { w with net:=l } m).net<wts w.net:=by
 have:=come_wt { w with net:=l } m
 rw [h,wts]
 simp only at this
 omega
theorem drainN_more:∀(f g:Nat) (w:AW),wts w.net≤f→f≤g→drainN g w=drainN f w
 |0,g,w,h,_=>by
  have:w.net=[]:=by
   cases hn:w.net with
   |nil=>rfl
   |cons m l=>rw [hn,wts] at h;have:=wt_pos m;omega
  cases g with
  |zero=>rfl
  |succ g=>unfold drainN;rw [this]
 |f+1,0,w,h,hg=>by omega
 |f+1,g+1,w,h,hg=>by
  cases hn:w.net with
  |nil=>unfold drainN;rw [hn]
  |cons m l=>
   have:=drain_step hn
   unfold drainN
   rw [hn]
   exact drainN_more f g _ (by omega) (by omega)
theorem drain_nil {w:AW} (h:w.net=[]):drainA w=w:=by
 unfold drainA
 rw [h];rfl
theorem drain_cons {w:AW} {m:Ms} {l:List Ms} (h:w.net=m::l):drainA w=drainA (comeA { w with net:=l } m):=by
 have h1:=drain_step h
 unfold drainA
 have hp:∃k,wts w.net=k+1:=⟨wts w.net - 1,by omega⟩
 obtain⟨k,hk⟩:=hp
 have e:drainN (k+1) w=drainN k (comeA { w with net:=l } m):=by
  show(match w.net with| []=>w|m::l=>drainN k (comeA { w with net:=l } m))=_
  rw [h]
 rw [hk,e]
 exact drainN_more _ _ _ (Nat.le_refl _) (by omega)
theorem drain_keeps {p:AW→Prop} (hstep:∀(w:AW) (m:Ms) (l:List Ms),p w→w.net=m::l→p (comeA { w with net:=l } m)):∀(f:Nat) (w:AW),wts w.net≤f→p w→p (drainA w)∧(drainA w).net=[]
 |f,w,hf,hp=>by
  cases hn:w.net with
  |nil=>rw [drain_nil hn];exact⟨hp,hn⟩
  |cons m l=>
   have h1:=drain_step hn
   rw [drain_cons hn]
   cases f with
   |zero=>omega
   |succ f=>exact drain_keeps hstep f _ (by omega) (hstep w m l hp hn)
theorem WI.come1 {n:Nat} {G:Reg} {w:AW} (i:WI n G w) {m:Ms} {l:List Ms} (h:w.net=m::l):WI n G (comeA { w with net:=l } m):=by
 have hl:=i.len
 rw [h] at hl
 simp at hl
 have i2:WI n G { w with net:=l }:=⟨i.core,fun x hx=>i.net x (by rw [h];exact List.mem_cons_of_mem _ hx),by show l.length≤24;omega⟩
 exact i2.come (i.net m (by rw [h];exact List.mem_cons_self)) i2.len
theorem WI.drain {n:Nat} {G:Reg} {w:AW} (i:WI n G w):WI n G (drainA w)∧(drainA w).net=[]:=
 drain_keeps (p:=fun w=>WI n G w) (fun _ _ _ h e=>h.come1 e) _ w (Nat.le_refl _) i
def pot:List Opn→Nat
 | []=>0
 |o::l=>(if o.dec=true then 1 else 2)+pot l
theorem pot_app:∀a b:List Opn,pot (a++b)=pot a+pot b
 | [],b=>by simp [pot]
 |o::a,b=>by rw [List.cons_append,pot,pot,pot_app a b];omega
theorem pot_len:∀l:List Opn,pot l≤2*l.length∧l.length≤pot l
 | []=>by simp [pot]
 |o::l=>by
  have:=pot_len l
  rw [pot,List.length_cons]
  split<;>omega
theorem pot_zero {l:List Opn} (h:pot l=0):l=[]:=List.eq_nil_of_length_eq_zero (by have:=(pot_len l).2;omega)
theorem hearO_cases (o:Opn) (m:Ms):pot (hearO o m).1<pot [o]∨((hearO o m).1=[o]∧(((o.dec=false∧(m.kind=2∨m.kind=3))∨(o.dec=true∧m.kind=6))→m.house∈housesE o.parts→m.house∈o.heard))∨
  (hearO o m).1=[{ o with heard:=o.heard++ [m.house] }]:=by
 unfold hearO
 split
 ·rename_i h
  split
  ·left;simp [pot,h.2.1]
  ·right;right;rfl
 rename_i n2
 split
 ·rename_i h
  left;simp [pot,h.2]
 rename_i n3
 split
 ·rename_i h
  split
  ·left;simp [pot,h.2.1]
  ·right;right;rfl
 rename_i n6
 have key:((o.dec=false∧(m.kind=2∨m.kind=3))∨(o.dec=true∧m.kind=6))→m.house∈housesE o.parts→m.house∈o.heard:=by
  intro hk hh
  apply Decidable.byContradiction
  intro hn
  rcases hk with⟨h1,h2|h2⟩|⟨h1,h2⟩
  ·exact n2 ⟨h2,h1,hh,hn⟩
  ·exact n3 ⟨h2,h1⟩
  ·exact n6 ⟨h2,h1,hh,hn⟩
 split
 ·right;left;exact⟨rfl,key⟩
 ·right;left;exact⟨rfl,key⟩
theorem hearO_pot (o:Opn) (m:Ms):pot (hearO o m).1≤pot [o]:=by
 rcases hearO_cases o m with h|⟨h,-⟩|h
 ·exact Nat.le_of_lt h
 ·rw [h];exact Nat.le_refl _
 ·rw [h];simp [pot]
theorem hHear_pot (h:Hd) (m:Ms):pot (hHearH h m).opn≤pot h.opn:=by
 unfold hHearH
 cases hl:hearL m h.opn with
 |none=>exact Nat.le_refl _
 |some x=>
  obtain⟨A,o,B,e,-,-,rfl⟩:=hearL_some hl
  have:=hearO_pot o m
  rw [e]
  simp only [pot_app]
  have e2:pot (o::B)=pot [o]+pot B:=pot_app [o] B
  omega
theorem come_pot (w:AW) (m:Ms):pot (comeA w m).head.opn≤pot w.head.opn:=by
 unfold comeA
 cases w.houses[m.house.toNat]? with
 |none=>exact Nat.le_refl _
 |some h=>
  simp only
  split
  ·exact Nat.le_refl _
  ·exact hHear_pot _ _
theorem tick_head (w:AW) (k:Nat):(tickA w k).head=w.head∧(tickA w k).houses=w.houses:=by
 unfold tickA
 split
 ·exact⟨rfl,rfl⟩
 ·cases w.houses[k]? with
  |none=>exact⟨rfl,rfl⟩
  |some h=>exact⟨rfl,rfl⟩
theorem drain_pot (w:AW):pot (drainA w).head.opn≤pot w.head.opn:=
 (drain_keeps (p:=fun x=>pot x.head.opn≤pot w.head.opn) (fun x m l h _=>Nat.le_trans (come_pot { x with net:=l } m) h) _ w (Nat.le_refl _) (Nat.le_refl _)).1
theorem fits_ne {S:Int→Int}:∀l:List Pt,fitsE S l≠10
 | []=>by simp [fitsE]
 |p::l=>by
  rw [fitsE]
  split
  ·omega
  split
  ·omega
  ·exact fits_ne l
theorem vote_ne {h:Hs} {d:Int} (hd:d∉h.done) (ps:List Pt):voteE h d ps≠10:=by
 unfold voteE
 rw [if_neg hd]
 split
 ·omega
 split
 ·omega
 ·exact fits_ne _
def Tok (b:Bool) (d k:Int) (m:Ms):Prop:=m.deed=d∧m.house=k∧((b=false∧(m.kind=1∨m.kind=2∨m.kind=3))∨(b=true∧(m.kind=4∨m.kind=6)))
def Toks (w:AW) (p0:Nat) (d:Int) (b:Bool):Prop:=pot w.head.opn≤p0∧
 (pot w.head.opn<p0∨∃o∈w.head.opn,o.deed=d∧o.dec=b∧∀k∈housesE o.parts,k∈o.heard∨∃m∈w.net,Tok b d k m)
theorem send_old {net:List Ms} (ms:List Ms) {x:Ms} (h:x∈net):x∈sendA net ms:=by
 unfold sendA
 exact List.mem_append_left _ h
theorem send_one {net:List Ms} (x:Ms) (h:net.length<24):sendA net [x]=net++ [x]:=by
 unfold sendA
 rw [List.take_of_length_le (by simp;omega)]
theorem toks_come {n:Nat} {G:Reg} {w:AW} {m:Ms} {l:List Ms} {p0:Nat} {d:Int} {b:Bool} (i:WI n G w) (h:Toks w p0 d b) (e:w.net=m::l):Toks (comeA { w with net:=l } m) p0 d b:=by
 have hl:=i.len
 rw [e] at hl
 simp only [List.length_cons] at hl
 have hm:=i.net m (by rw [e];exact List.mem_cons_self)
 have hp:=come_pot { w with net:=l } m
 obtain⟨hle,h⟩:=h
 refine⟨Nat.le_trans hp hle,?_⟩
 rcases h with h|⟨o,ho,hod,hob,hk⟩
 ·left;exact Nat.lt_of_le_of_lt hp h
 have hlen:=i.core.len
 have h0:=hm.right.house.1
 have hlt:m.house.toNat<w.houses.length:=by have:=hm.here;omega
 obtain⟨h,hh⟩:∃h,w.houses[m.house.toNat]? =some h:=⟨_,List.getElem?_eq_getElem hlt⟩
 cases hf:forHouse m with
 |true=>
  have ew:comeA { w with net:=l } m=⟨w.head,w.houses.set m.house.toNat (hearH h m),sendA l (hearM h m.house m)⟩:=by
   unfold comeA
   simp only [hh,hf,if_true]
  rw [ew]
  right
  refine⟨o,ho,hod,hob,fun k hk'=>?_⟩
  rcases hk k hk' with h1|⟨x,hx,ht⟩
  ·exact .inl h1
  right
  rw [e] at hx
  rcases List.mem_cons.1 hx with hx|hx
  ·obtain⟨t1,t2,t3⟩:=ht
   rw [hx] at t1 t2 t3
   have hroom:∀y,hearM h m.house m=[y]→y∈sendA l (hearM h m.house m):=fun y hy=>by
    rw [hy,send_one _ (by omega)];simp
   have hi:=i.core.house' h0 hh
   rcases t3 with⟨hb,t3⟩|⟨hb,t3⟩
   ·have k1:m.kind=1:=by
     unfold forHouse at hf
     rw [decide_eq_true_eq] at hf
     omega
    have hnd:m.deed∉h.done:=fun hd'=>by
     obtain⟨r,hr,hrd⟩:=i.core.done_dec (k:=m.house) h0 ⟨h,hh,hd'⟩
     have:=(i.core.odec o ho).2 ⟨r,hr,by rw [hrd,t1,hod]⟩
     rw [hob,hb] at this
     cases this
    have hv:=vote_ne hnd m.parts
    by_cases hz:voteE h m.deed m.parts=0
    ·have hy:hearM h m.house m=[⟨2,m.deed,m.house,[]⟩]:=by
      unfold hearM
      rw [if_pos k1,if_neg hv,if_pos hz];rfl
     exact⟨_,hroom _ hy,t1,t2,.inl ⟨hb,.inr (.inl rfl)⟩⟩
    ·have hy:hearM h m.house m=[⟨3,m.deed,m.house,[]⟩]:=by
      unfold hearM
      rw [if_pos k1,if_neg hv,if_neg hz];rfl
     exact⟨_,hroom _ hy,t1,t2,.inl ⟨hb,.inr (.inr rfl)⟩⟩
   ·have k4:m.kind=4:=by
     unfold forHouse at hf
     rw [decide_eq_true_eq] at hf
     omega
    obtain⟨r,hr,hrd⟩:=(i.core.odec o ho).1 (by rw [hob,hb])
    have hreg:=i.core.dec.reg r hr
    rw [hrd] at hreg
    have hpp:=reg_same i.core.reg.nd hreg (i.core.oreg o ho)
    have hkept:Kept h m.deed:=by
     rcases i.core.held r hr k (by rw [hpp];exact hk') with⟨y,hy,hyr⟩|⟨y,hy,hyr⟩
     ·rw [←t2,hh] at hy
      obtain rfl:=Option.some.inj hy
      left
      rw [t1,←hod,←hrd];exact hyr
     ·rw [←t2,hh] at hy
      obtain rfl:=Option.some.inj hy
      right
      rw [t1,←hod,←hrd];exact hyr
    have hy:hearM h m.house m=[⟨6,m.deed,m.house,[]⟩]:=by
     have hw:=(word_law hi.calm.made hi.calm.fine (me:=m.house) hm.right.deed.1 hkept m.house 0).2.1
     have em:m=⟨4,m.deed,m.house,[]⟩:=by
      have hnone:=hm.right.none (by omega)
      obtain⟨kind,deed,house,parts⟩:=m
      simp only at k4 hnone
      rw [k4,hnone]
     rw [←em] at hw
     exact hw
    exact⟨_,hroom _ hy,t1,t2,.inr ⟨hb,.inr rfl⟩⟩
  ·exact⟨x,send_old _ hx,ht⟩
 |false=>
  have ew:comeA { w with net:=l } m=⟨hHearH w.head m,w.houses,sendA l (hHearM w.head m)⟩:=by
   unfold comeA
   simp only [hh,hf]
   rfl
  rw [ew] at hp ⊢
  have hnf:m.kind≠1∧m.kind≠4:=by
   unfold forHouse at hf
   rw [decide_eq_false_iff_not] at hf
   omega
  have other:m.deed≠d→∀k,(k∈o.heard∨∃x∈w.net,Tok b d k x)→(k∈o.heard∨∃x∈sendA l (hHearM w.head m),Tok b d k x):=by
   intro hne k hx
   rcases hx with hx|⟨x,hx,ht⟩
   ·exact .inl hx
   ·rw [e] at hx
    rcases List.mem_cons.1 hx with hx|hx
    ·rw [hx] at ht;exact absurd ht.1 hne
    ·exact .inr ⟨x,send_old _ hx,ht⟩
  cases hL:hearL m w.head.opn with
  |none=>
   right
   have e1:hHearH w.head m=w.head:=by unfold hHearH;rw [hL]
   rw [e1]
   have hne:m.deed≠d:=fun h=>hearL_none hL o ho (by rw [hod,h])
   exact⟨o,ho,hod,hob,fun k hk'=>other hne k (hk k hk')⟩
  |some y=>
   obtain⟨A,o2,B,e1,e2,e3,rfl⟩:=hearL_some hL
   have eo:(hHearH w.head m).opn=A++(hearO o2 m).1++B:=by unfold hHearH;rw [hL]
   show pot (hHearH w.head m).opn<p0∨∃o∈(hHearH w.head m).opn,_
   rw [eo]
   have hond:=i.core.ond
   rw [e1] at hond
   by_cases hd:m.deed=d
   ·have eoo:o=o2:=by
     rw [e1] at ho
     rcases List.mem_append.1 ho with h1|h1
     ·exact absurd (hod.trans (hd.symm.trans e3.symm)) (open_deed hond (List.mem_append_left _ h1))
     ·rcases List.mem_cons.1 h1 with h1|h1
      ·exact h1
      ·exact absurd (hod.trans (hd.symm.trans e3.symm)) (open_deed hond (List.mem_append_right _ h1))
    rw [←eoo] at e1 ⊢
    rcases hearO_cases o m with hc|⟨hc,hi⟩|hc
    ·left
     rw [e1] at hle
     have e4:pot (A++o::B)=pot A+(pot [o]+pot B):=by rw [pot_app];congr 1
     rw [pot_app,pot_app]
     omega
    ·right
     rw [hc]
     refine⟨o,by simp,hod,hob,fun k hk'=>?_⟩
     rcases hk k hk' with hx|⟨x,hx,ht⟩
     ·exact .inl hx
     rw [e] at hx
     rcases List.mem_cons.1 hx with hx|hx
     ·rw [hx] at ht
      left
      obtain⟨t1,t2,t3⟩:=ht
      rw [←t2] at hk' ⊢
      refine hi ?_ hk'
      rw [hob]
      rcases t3 with⟨hb,t3⟩|⟨hb,t3⟩
      ·exact .inl ⟨hb,by omega⟩
      ·exact .inr ⟨hb,by omega⟩
     ·exact .inr ⟨x,send_old _ hx,ht⟩
    ·right
     rw [hc]
     refine⟨_,List.mem_append_left _ (List.mem_append_right _ List.mem_cons_self),hod,hob,fun k hk'=>?_⟩
     rcases hk k hk' with hx|⟨x,hx,ht⟩
     ·exact .inl (List.mem_append_left _ hx)
     rw [e] at hx
     rcases List.mem_cons.1 hx with hx|hx
     ·rw [hx] at ht
      left
      rw [←ht.2.1];simp
     ·exact .inr ⟨x,send_old _ hx,ht⟩
   ·right
    refine⟨o,?_,hod,hob,fun k hk'=>other hd k (hk k hk')⟩
    rw [e1] at ho
    rcases List.mem_append.1 ho with h1|h1
    ·exact List.mem_append_left _ (List.mem_append_left _ h1)
    ·rcases List.mem_cons.1 h1 with h1|h1
     ·exact absurd (by rw [←e3,←h1,hod]) hd
     ·exact List.mem_append_right _ h1
theorem head_tick {n:Nat} {G:Reg} {w:AW} (i:WI n G w) (hnet:w.net=[]) (hne:w.head.opn≠ []):pot (drainA (tickA w 3)).head.opn<pot w.head.opn:=by
 cases ho:w.head.opn with
 |nil=>exact absurd ho hne
 |cons o B=>
  have hth:=tick_head w 3
  have ht:Toks (tickA w 3) (pot w.head.opn) o.deed o.dec:=by
   refine⟨by rw [hth.1];exact Nat.le_refl _,.inr ⟨o,by rw [hth.1,ho];exact List.mem_cons_self,rfl,rfl,fun k hk=>?_⟩⟩
   by_cases hh:k∈o.heard
   ·exact .inl hh
   right
   refine⟨commitM o k,?_,?_⟩
   ·have e:(tickA w 3).net=sendA w.net (tickE w.head):=by unfold tickA;rw [if_pos rfl]
    rw [e,hnet]
    unfold sendA tickE
    rw [ho,List.nil_append,List.flatMap_cons,List.take_append]
    refine List.mem_append_left _ ?_
    have h4:(asksE o).length≤3:=by
     unfold asksE
     rw [List.length_map]
     exact Nat.le_trans (List.length_filter_le _ _) (houses_len _)
    rw [List.take_of_length_le (by simp;omega)]
    unfold asksE
    exact List.mem_map.2 ⟨k,List.mem_filter.2 ⟨hk,by simp [hh]⟩,rfl⟩
   ·unfold commitM
    cases hd:o.dec with
    |true=>exact⟨rfl,rfl,.inr ⟨rfl,.inl rfl⟩⟩
    |false=>exact⟨rfl,rfl,.inl ⟨rfl,.inl rfl⟩⟩
  obtain⟨⟨i2,t2⟩,hn⟩:=drain_keeps (p:=fun x=>WI n G x∧Toks x (pot w.head.opn) o.deed o.dec) (fun x m l h e=>⟨h.1.come1 e,toks_come h.1 h.2 e⟩) _ (tickA w 3) (Nat.le_refl _) ⟨i.tick 3,ht⟩
  rw [←ho]
  rcases t2.2 with h|⟨o',ho',-,-,hk⟩
  ·exact h
  ·exfalso
   have h1:=(i2.core.onew o' ho').2.2
   have h2:=len_le (houses_nodup o'.parts) (b:=o'.heard) fun k hk'=>(hk k hk').resolve_right (by rw [hn];simp)
   omega
def NoRdy (w:AW) (j:Nat):Prop:=∀h,w.houses[j]? =some h→h.ready=[]
def Asks (w:AW) (k:Nat):Prop:=w.head.opn=[]∧(∀m∈w.net,m.kind=5∨m.kind=7)∧∀h,w.houses[k]? =some h→∀r∈h.ready,∃m∈w.net,m.deed=r.deed∧m.house=k
theorem hear5 {h:Hs} (hm:Made h) (hf:Fine h.ready) {m:Ms} (h5:m.kind=5):hearM h m.house m=[]∧∀r∈(hearH h m).ready,r∈h.ready∧r.deed≠m.deed:=by
 constructor
 ·unfold hearM
  rw [if_neg (by omega),if_neg (by omega)]
 ·intro r hr
  unfold hearH at hr
  rw [if_neg (by omega),if_neg (by omega),if_pos h5] at hr
  split at hr
  ·rename_i hrd
   rw [(note3 hm hrd).1] at hr
   exact mem_erase hf.nodup hr
  ·rename_i hrd
   refine⟨hr,fun e=>hrd ?_⟩
   unfold readyE
   rw [List.any_eq_true]
   exact⟨r,hr,by simp [isD,e]⟩
theorem asks_come {n:Nat} {G:Reg} {w:AW} {m:Ms} {l:List Ms} {k:Nat} (i:WI n G w) (h:Asks w k) (e:w.net=m::l):
  Asks (comeA { w with net:=l } m) k∧∀j,NoRdy w j→NoRdy (comeA { w with net:=l } m) j:=by
 have hl:=i.len
 rw [e] at hl
 simp only [List.length_cons] at hl
 have hmem:m∈w.net:=by rw [e];exact List.mem_cons_self
 have hm:=i.net m hmem
 obtain⟨ho,hk,ht⟩:=h
 have hlen:=i.core.len
 have h0:=hm.right.house.1
 have hlt:m.house.toNat<w.houses.length:=by have:=hm.here;omega
 obtain⟨h,hh⟩:∃h,w.houses[m.house.toNat]? =some h:=⟨_,List.getElem?_eq_getElem hlt⟩
 have hi:=i.core.house' h0 hh
 have hkl:∀x∈l,x.kind=5∨x.kind=7:=fun x hx=>hk x (by rw [e];exact List.mem_cons_of_mem _ hx)
 rcases hk m hmem with h5|h7
 ·obtain⟨g1,g2⟩:=hear5 hi.calm.made hi.calm.fine h5
  have ew:comeA { w with net:=l } m=⟨w.head,w.houses.set m.house.toNat (hearH h m),l⟩:=by
   unfold comeA
   have hf:forHouse m=true:=by unfold forHouse;rw [decide_eq_true_eq];omega
   simp only [hh,hf,if_true,g1]
   simp [sendA]
  rw [ew]
  refine⟨⟨ho,hkl,fun x hx r hr=>?_⟩,fun j hj x hx=>?_⟩
  ·by_cases ek:k=m.house.toNat
   ·subst ek
    replace hx:(w.houses.set m.house.toNat (hearH h m))[m.house.toNat]? =some x:=hx
    rw [List.getElem?_set_self hlt] at hx
    obtain rfl:=Option.some.inj hx
    obtain⟨a,b⟩:=g2 r hr
    obtain⟨y,hy,y1,y2⟩:=ht h hh r a
    rw [e] at hy
    rcases List.mem_cons.1 hy with hy|hy
    ·rw [hy] at y1;exact absurd y1.symm b
    ·exact⟨y,hy,y1,y2⟩
   ·replace hx:(w.houses.set m.house.toNat (hearH h m))[k]? =some x:=hx
    rw [List.getElem?_set_ne (fun e'=>ek e'.symm)] at hx
    obtain⟨y,hy,y1,y2⟩:=ht x hx r hr
    rw [e] at hy
    rcases List.mem_cons.1 hy with hy|hy
    ·rw [hy] at y2;exact absurd (by omega) ek
    ·exact⟨y,hy,y1,y2⟩
  ·by_cases ek:j=m.house.toNat
   ·subst ek
    replace hx:(w.houses.set m.house.toNat (hearH h m))[m.house.toNat]? =some x:=hx
    rw [List.getElem?_set_self hlt] at hx
    obtain rfl:=Option.some.inj hx
    rw [List.eq_nil_iff_forall_not_mem]
    intro r hr
    have:=(g2 r hr).1
    rw [hj h hh] at this
    simp at this
   ·replace hx:(w.houses.set m.house.toNat (hearH h m))[j]? =some x:=hx
    rw [List.getElem?_set_ne (fun e'=>ek e'.symm)] at hx
    exact hj x hx
 ·have hL:hearL m w.head.opn=none:=by rw [ho];rfl
  have ew:comeA { w with net:=l } m=⟨w.head,w.houses,l++ [⟨5,m.deed,m.house,[]⟩]⟩:=by
   unfold comeA
   have hf:forHouse m=false:=by unfold forHouse;rw [decide_eq_false_iff_not];omega
   have e1:hHearH w.head m=w.head:=by unfold hHearH;rw [hL]
   have e2:hHearM w.head m=[⟨5,m.deed,m.house,[]⟩]:=by unfold hHearM;rw [hL];simp only;rw [if_pos h7]
   simp only [hh,hf,e1,e2]
   rw [send_one _ (by omega)]
   rfl
  rw [ew]
  refine⟨⟨ho,fun x hx=>?_,fun x hx r hr=>?_⟩,fun j hj x hx=>hj x hx⟩
  ·rcases List.mem_append.1 hx with hx|hx
   ·exact hkl x hx
   ·rw [List.mem_singleton.1 hx];exact .inl rfl
  ·obtain⟨y,hy,y1,y2⟩:=ht x hx r hr
   rw [e] at hy
   rcases List.mem_cons.1 hy with hy|hy
   ·rw [hy] at y1 y2
    exact⟨_,List.mem_append_right _ List.mem_cons_self,y1,y2⟩
   ·exact⟨y,List.mem_append_left _ hy,y1,y2⟩
theorem keysOf_len:∀{l:List Rd},(∀r∈l,r.parts≠ [])→l.length≤(keysOf l).length
 | [],_=>Nat.zero_le _
 |r::l,h=>by
  have ih:=keysOf_len (l:=l) fun x hx=>h x (List.mem_cons_of_mem _ hx)
  have h1:0<r.parts.length:=List.length_pos_iff.2 (h r List.mem_cons_self)
  rw [keysOf_cons,List.length_append,List.length_map,List.length_cons]
  omega
theorem ready_len {n:Nat} {G:Reg} {hd:Hd} {hs:List Hs} (c:Core n G hd hs) {k:Nat} {h:Hs} (hk:hs[k]? =some h):h.ready.length≤4:=by
 have hi:=c.house k h hk
 have h1:=keysOf_len (l:=h.ready) fun r hr=>by
  obtain⟨P,-,-,hne⟩:=hi.reg r hr
  exact hne
 have h2:=len_le hi.calm.apart (b:=[0,1,2,3]) fun q hq=>by
  unfold keysOf at hq
  obtain⟨r,hr,hq⟩:=List.mem_flatMap.1 hq
  obtain⟨P,hP,hp,-⟩:=hi.reg r hr
  obtain⟨p,hp',rfl⟩:=List.mem_map.1 hq
  rw [hp] at hp'
  have:=ofL_ok (c.reg.ok _ hP).2 k p hp'
  simp
  omega
 simp only [List.length_cons,List.length_nil] at h2
 omega
def tickD (w:AW) (k:Nat):AW:=drainA (tickA w k)
theorem WI.tickD {n:Nat} {G:Reg} {w:AW} (i:WI n G w) (k:Nat):WI n G (tickD w k)∧(tickD w k).net=[]:=(i.tick k).drain
theorem tickD_pot (w:AW) (k:Nat):pot (tickD w k).head.opn≤pot w.head.opn:=by
 have:=drain_pot (tickA w k)
 rw [(tick_head w k).1] at this
 exact this
theorem tickD_quiet {n:Nat} {G:Reg} {w:AW} (i:WI n G w) (hnet:w.net=[]) (ho:w.head.opn=[]) {k:Nat} (hk:k≠3):
  (tickD w k).head.opn=[]∧NoRdy (tickD w k) k∧∀j,NoRdy w j→NoRdy (tickD w k) j:=by
 have hth:=tick_head w k
 have h0:Asks (tickA w k) k:=by
  refine⟨by rw [hth.1];exact ho,?_,?_⟩
  ·intro m hm
   unfold tickA at hm
   rw [if_neg hk] at hm
   cases hh:w.houses[k]? with
   |none=>rw [hh] at hm;simp only [hnet] at hm;simp at hm
   |some h=>
    rw [hh] at hm
    simp only [hnet] at hm
    rcases send_mem hm with hm|hm
    ·simp at hm
    ·unfold hTickE at hm
     obtain⟨r,-,rfl⟩:=List.mem_map.1 hm
     exact .inr rfl
  ·intro h hh r hr
   rw [hth.2] at hh
   have hlen:=ready_len i.core hh
   refine⟨⟨7,r.deed,k,[]⟩,?_,rfl,rfl⟩
   have e:(tickA w k).net=sendA w.net (hTickE h k):=by
    unfold tickA
    rw [if_neg hk,hh]
   rw [e,hnet]
   unfold sendA hTickE
   rw [List.nil_append,List.take_of_length_le (by simp;omega)]
   exact List.mem_map.2 ⟨r,hr,rfl⟩
 obtain⟨⟨i2,t2,t3⟩,hn⟩:=drain_keeps (p:=fun x=>WI n G x∧Asks x k∧∀j,NoRdy w j→NoRdy x j)
  (fun x m l h e=>⟨h.1.come1 e,(asks_come h.1 h.2.1 e).1,fun j hj=>(asks_come h.1 h.2.1 e).2 j (h.2.2 j hj)⟩) _ (tickA w k) (Nat.le_refl _)
  ⟨i.tick k,h0,fun j hj h hh=>hj h (by rw [hth.2] at hh;exact hh)⟩
 refine⟨t2.1,fun h hh=>?_,t3⟩
 rw [List.eq_nil_iff_forall_not_mem]
 intro r hr
 obtain⟨m,hm,-⟩:=t2.2.2 h hh r hr
 have hn':(drainA (tickA w k)).net=[]:=hn
 rw [hn'] at hm
 simp at hm
def roundA (w:AW):AW:=tickD (tickD (tickD (tickD (drainA w) 3) 2) 1) 0
structure Quiet (w:AW):Prop where
 net:w.net=[]
 opn:w.head.opn=[]
 ready:∀j,NoRdy w j
theorem WI.round {n:Nat} {G:Reg} {w:AW} (i:WI n G w):WI n G (roundA w):=
 ((((i.drain.1.tickD 3).1.tickD 2).1.tickD 1).1.tickD 0).1
theorem round_pot (w:AW):pot (roundA w).head.opn≤pot (tickD (drainA w) 3).head.opn:=
 Nat.le_trans (tickD_pot _ 0) (Nat.le_trans (tickD_pot _ 1) (tickD_pot _ 2))
theorem pot_nil {l l':List Opn} (h:pot l≤pot l') (e:l'=[]):l=[]:=pot_zero (Nat.le_zero.1 (by rw [e] at h;exact h))
theorem round_quiet {n:Nat} {G:Reg} {w:AW} (i:WI n G w) (ho:(drainA w).head.opn=[]):Quiet (roundA w):=by
 unfold roundA
 obtain⟨i0,n0⟩:=i.drain
 obtain⟨i3,n3⟩:=i0.tickD 3
 have o3:=pot_nil (tickD_pot (drainA w) 3) ho
 obtain⟨i2,n2⟩:=i3.tickD 2
 obtain⟨o2,r2,k2⟩:=tickD_quiet i3 n3 o3 (k:=2) (by omega)
 obtain⟨i1,n1⟩:=i2.tickD 1
 obtain⟨o1,r1,k1⟩:=tickD_quiet i2 n2 o2 (k:=1) (by omega)
 obtain⟨i4,n4⟩:=i1.tickD 0
 obtain⟨o4,r4,k4⟩:=tickD_quiet i1 n1 o1 (k:=0) (by omega)
 refine⟨n4,o4,fun j=>?_⟩
 rcases Nat.lt_or_ge j 3 with hj|hj
 ·have:j=0∨j=1∨j=2:=by omega
  rcases this with rfl|rfl|rfl
  ·exact r4
  ·exact k4 _ r1
  ·exact k4 _ (k1 _ r2)
 ·intro h hh
  have h1:=(List.getElem?_eq_some_iff.1 hh).1
  have h2:=i4.core.len
  have h3:=i4.core.n3
  omega
def isOpen (w:AW) (d:Int):Bool:=w.houses.any (fun h=>readyE h.ready d)||
 (decidedR w.head.log).any fun r=>r.deed==d&&(List.range w.houses.length).any fun k=>!(ofL r.parts k).isEmpty&& !decide (d∈(w.houses.getD k hs0).done)
def opensE (w:AW):List Int:=((List.range 1344).map fun d:Nat=>(d:Int)).filter (isOpen w)
def idleA (w:AW):Bool:=w.net.isEmpty&&w.head.opn.isEmpty&&(opensE w).isEmpty
theorem open_nil {n:Nat} {G:Reg} {w:AW} (i:WI n G w) (q:Quiet w) (d:Int):isOpen w d=false:=by
 unfold isOpen
 rw [Bool.or_eq_false_iff]
 constructor
 ·rw [List.any_eq_false]
  intro h hh
  obtain⟨j,hj⟩:=List.mem_iff_getElem?.1 hh
  rw [q.ready j h hj]
  simp [readyE]
 ·rw [List.any_eq_false]
  intro r hr hx
  rw [Bool.and_eq_true,List.any_eq_true] at hx
  obtain⟨hd,k,hk,hx⟩:=hx
  rw [Bool.and_eq_true] at hx
  have hk':k<w.houses.length:=List.mem_range.1 hk
  have hl:=i.core.len
  have h3:=i.core.n3
  have hin:(k:Int)∈housesE r.parts:=houses_mem.2 ⟨by omega,by have:=hx.1;intro e;rw [e] at this;simp at this⟩
  obtain⟨y,hy,hyd⟩:=i.core.settled q.opn r hr k hin
  have e1:w.houses.getD k hs0=y:=by
   rw [show((k:Int)).toNat=k from rfl] at hy
   rw [List.getD_eq_getElem?_getD,hy];rfl
  have e2:r.deed=d:=by simpa using hd
  rw [e1,←e2] at hx
  simp [hyd] at hx
theorem idle_iff {n:Nat} {G:Reg} {w:AW} (i:WI n G w):idleA w=true↔Quiet w:=by
 unfold idleA
 rw [Bool.and_eq_true,Bool.and_eq_true,List.isEmpty_iff,List.isEmpty_iff,List.isEmpty_iff]
 constructor
 ·rintro⟨⟨h1,h2⟩,h3⟩
  refine⟨h1,h2,fun j h hh=>?_⟩
  rw [List.eq_nil_iff_forall_not_mem]
  intro r hr
  obtain⟨P,hP,-⟩:=(i.core.house j h hh).reg r hr
  have hd:=i.core.deed hP
  have:r.deed∈opensE w:=by
   unfold opensE
   refine List.mem_filter.2 ⟨List.mem_map.2 ⟨r.deed.toNat,List.mem_range.2 (by omega),by omega⟩,?_⟩
   unfold isOpen
   rw [Bool.or_eq_true,List.any_eq_true]
   left
   refine⟨h,List.mem_of_getElem? hh,?_⟩
   unfold readyE
   rw [List.any_eq_true]
   exact⟨r,hr,by simp [isD]⟩
  rw [h3] at this
  simp at this
 ·intro q
  refine⟨⟨q.net,q.opn⟩,?_⟩
  unfold opensE
  rw [List.filter_eq_nil_iff]
  intro d _
  rw [open_nil i q d]
  simp
def settleN:Nat→AW→AW×Nat
 |0,w=>(w,0)
 |f+1,w=>if idleA w=true then(w,0) else((settleN f (roundA w)).1,(settleN f (roundA w)).2+1)
theorem settle_same {n:Nat} {G:Reg} {w:AW} (i:WI n G w) (q:Quiet w):∀f,settleN f w=(w,0)
 |0=>rfl
 |f+1=>by
  unfold settleN
  rw [if_pos ((idle_iff i).2 q)]
theorem settle_len:∀(f:Nat) (w:AW),(settleN f w).2≤f
 |0,w=>Nat.le_refl _
 |f+1,w=>by
  unfold settleN
  split
  ·exact Nat.zero_le _
  ·have:=settle_len f (roundA w)
   simp only
   omega
theorem settle_step (f:Nat) {w:AW} (h:idleA w=false):settleN (f+1) w=((settleN f (roundA w)).1,(settleN f (roundA w)).2+1):=by
 show(if idleA w=true then(w,0) else _)=_
 rw [h];rfl
theorem settle_quiet {n:Nat} {G:Reg} (f:Nat):∀{w:AW},WI n G w→pot w.head.opn+1≤f→Quiet (settleN f w).1∧WI n G (settleN f w).1:=by
 induction f with
 |zero=>intro w _ h;omega
 |succ f ih=>
  intro w i h
  cases hi:idleA w with
  |true=>
   have q:=(idle_iff i).1 hi
   rw [settle_same i q]
   exact⟨q,i⟩
  |false=>
   rw [settle_step f hi]
   have i2:=i.round
   have h2:=drain_pot w
   have h3:=round_pot w
   by_cases ho:(drainA w).head.opn=[]
   ·have q:=round_quiet i ho
    generalize roundA w=x at*
    rw [settle_same i2 q f]
    exact⟨q,i2⟩
   ·have h1:pot (tickD (drainA w) 3).head.opn<pot (drainA w).head.opn:=head_tick i.drain.1 i.drain.2 ho
    have h4:pot (roundA w).head.opn+1≤f:=by omega
    generalize roundA w=x at*
    exact ih i2 h4
def settleA (w:AW):AW×Nat:=settleN 30 w
theorem WI.settle {n:Nat} {G:Reg} {w:AW} (i:WI n G w):Quiet (settleA w).1∧WI n G (settleA w).1∧(settleA w).2≤30:=by
 have h1:=(pot_len w.head.opn).1
 have h2:=i.core.olen
 have:=settle_quiet 30 i (by omega)
 exact⟨this.1,this.2,settle_len _ _⟩
theorem round_keeps {p:AW→Prop} (hcome:∀(w:AW) (m:Ms) (l:List Ms),p w→w.net=m::l→p (comeA { w with net:=l } m)) (htick:∀(w:AW) (k:Nat),p w→p (tickA w k)) {w:AW} (h:p w):p (roundA w):=by
 have hd:∀x,p x→p (drainA x):=fun x hx=>(drain_keeps hcome _ x (Nat.le_refl _) hx).1
 exact hd _ (htick _ _ (hd _ (htick _ _ (hd _ (htick _ _ (hd _ (htick _ _ (hd _ h))))))))
theorem settle_keeps {p:AW→Prop} (hcome:∀(w:AW) (m:Ms) (l:List Ms),p w→w.net=m::l→p (comeA { w with net:=l } m)) (htick:∀(w:AW) (k:Nat),p w→p (tickA w k)):∀(f:Nat) {w:AW},p w→p (settleN f w).1
 |0,_,h=>h
 |f+1,w,h=>by
  unfold settleN
  split
  ·exact h
  ·exact settle_keeps hcome htick f (round_keeps hcome htick h)
section
variable {P:Program} {ops:Array Oper} {Q:Exit→Act→World→Prop} {md:Region.Mode} {S:World→Prop} {C:List Nat}
def wpC (P:Program) (md:Region.Mode) (ops:Array Oper) (Q:Exit→Act→World→Prop) (S:World→Prop) (C:List Nat):Nat→Array Bool→Act→World→Prop
 |0,listed,a,w=>Region.ready md ops listed=[]∧Q .normal a w
 |fuel+1,listed,a,w=>(Region.ready md ops listed=[]→Q .normal a w)∧∀i∈Region.ready md ops listed,wpOp P ops Q i (fun a' w'=>(i∈C∨S w')∧wpC P md ops Q S C fuel (listed.setIfInBounds i true) a' w') a w
theorem wpC_any:∀(fuel:Nat) (listed:Array Bool) (a:Act) (w:World),wpC P md ops Q S C fuel listed a w→wpAny P md ops Q fuel listed a w
 |0,_,_,_,h=>h
 |_+1,_,_,_,h=>⟨h.1,fun i hi=>wpOp_mono (fun a' w' h'=>wpC_any _ _ a' w' h'.2) (h.2 i hi)⟩
theorem wpC_first {i f:Nat} {oi:Oper} {v:Value} (hi:ops[i]? =some oi) (hsel:∀(j:Nat) (o:Oper) cs b,ops[j]? =some o→o.op≠ .select cs b)
  (hQ:∀k a w,Q (.panic k) (a.put oi.dst v) w→Q (.panic k) a w) (hw:∀c∈C,waitsFor md ops f i c=true):
  ∀(fuel:Nat) (listed:Array Bool) (a:Act) (w:World),DownSet md ops listed→
   (∀j oj,ops[j]? =some oj→j≠i→listed.getD j true=false→(∀e∈oj.after,Region.binds md e=true→e.on≠i)→oi.apart ops oj=true)→
   i∈Region.ready md ops listed→YieldsIf P ops S oi v a→S w→
   wpC P md ops Q S C fuel (listed.setIfInBounds i true) (a.put oi.dst v) w→wpC P md ops Q S C (fuel+1) listed a w:=by
 have hun:∀listed:Array Bool,i∈Region.ready md ops listed→listed.getD i false=false:=by
  intro listed hr
  have h0:=(mem_ready.1 hr).1
  by_cases hl:i<listed.size
  ·simp [hl] at h0 ⊢;exact h0
  ·simp [hl]
 intro fuel
 induction fuel with
 |zero=>
  intro listed a w _ _ hr hy hS H
  refine⟨fun h=>(by rw [h] at hr;cases hr),fun j hj=>?_⟩
  by_cases hji:j=i
  ·subst hji;exact hy.wpOp hi hS ⟨.inr hS,H⟩
  ·have:=ready_mono hj hji
   rw [H.1] at this
   cases this
 |succ fuel ih=>
  intro listed a w hcl hfree hr hy hS H
  refine⟨fun h=>(by rw [h] at hr;cases hr),fun j hj=>?_⟩
  by_cases hji:j=i
  ·subst hji;exact hy.wpOp hi hS ⟨.inr hS,H⟩
  ·have hjc:j∉C:=fun e=>(waits_spec hcl (hun _ hr) (hw j e)).1 hj
   have h1:=H.2 j (ready_mono hj hji)
   obtain⟨hjun,oj,hoj,hall⟩:=mem_ready.1 hj
   have hnot:∀e∈oj.after,Region.binds md e=true→e.on≠i:=fun e he hb heq=>by
    have h1:=hall e he hb
    rw [heq,hun _ hr] at h1
    cases h1
   have h2:=wpOp_putIf hoj (hfree j oj hoj hji hjun hnot) (fun cs b=>hsel i oi cs b hi) (fun cs b=>hsel j oj cs b hoj) hQ hy h1
   refine wpOp_mono (fun a' w' h3=>have hs3:=h3.2.1.resolve_left hjc;⟨.inr hs3,ih (listed.setIfInBounds j true) a' w' (hcl.set hj) (fun k ok hk hki hku hno=>?_) (ready_mono hr (Ne.symm hji)) h3.1 hs3 ?_⟩) h2
   ·refine hfree k ok hk hki ?_ hno
    by_cases hjk:j=k
    ·subst hjk;exact hjun
    ·rw [getD_set_ne true hjk] at hku;exact hku
   ·rw [Array.setIfInBounds_comm _ _ hji]
    exact h3.2.2
def tkC (P:Program) (md:Region.Mode) (ops:Array Oper) (Q:Exit→Act→World→Prop) (S:World→Prop) (C:List Nat) (w:World):List Nat→Nat→Array Bool→Act→Prop
 | [],fuel,listed,a=>wpC P md ops Q S C fuel listed a w
 |i::is,F,listed,a=>∃fuel oi v,F=fuel+1∧ops[i]? =some oi∧YieldsIf P ops S oi v a∧tkC P md ops Q S C w is fuel (listed.setIfInBounds i true) (a.put oi.dst v)
def tkBC (md:Region.Mode) (ops:Array Oper) (C:List Nat) (f:Nat):List Nat→Array Bool→Bool
 | [],_=>true
 |i::is,listed=>Region.free md ops listed i&&((Region.ready md ops listed).contains i&&((C.all fun c=>waitsFor md ops f i c)&&tkBC md ops C f is (listed.setIfInBounds i true)))
theorem tkC_go {w:World} (hsel:∀(j:Nat) (o:Oper) cs b,ops[j]? =some o→o.op≠ .select cs b) (hQ:∀k d v a w,Q (.panic k) (a.put (some d) v) w→Q (.panic k) a w) (hS:S w) (f:Nat):∀(is:List Nat) (fuel:Nat) (listed:Array Bool) (a:Act),DownSet md ops listed→tkBC md ops C f is listed=true→tkC P md ops Q S C w is fuel listed a→wpC P md ops Q S C fuel listed a w
 | [],_,_,_,_,_,h=>h
 |i::is,_,listed,a,hd,hb,h=>by
  obtain⟨fuel,oi,v,rfl,hi,hy,h⟩:=h
  simp only [tkBC,Bool.and_eq_true] at hb
  obtain⟨b1,b2,b3,b4⟩:=hb
  have hr:i∈Region.ready md ops listed:=by simpa using b2
  exact wpC_first hi hsel (fun k a w h=>by
   cases hd:oi.dst with
   |none=>rw [hd] at h;exact h
   |some d=>rw [hd] at h;exact hQ k d _ a w h) (fun c hc=>List.all_eq_true.1 b3 c hc) fuel listed a w hd (Region.free_spec hi b1) hr hy hS (tkC_go hsel hQ hS f is fuel _ _ (hd.set hr) b4 h)
theorem bLc (is:List Nat) (f:Nat) {fuel:Nat} {listed:Array Bool} {a:Act} {w:World} (h5:(Region.noSelect ops&&(shutB md ops listed&&tkBC md ops C f is listed))=true) (hQ:∀k d v a w,Q (.panic k) (a.put (some d) v) w→Q (.panic k) a w) (hS:S w)
  (h:tkC P md ops Q S C w is fuel listed a):wpC P md ops Q S C fuel listed a w:=by
 simp only [Bool.and_eq_true] at h5
 exact tkC_go (Region.noSelect_spec h5.1) hQ hS f is fuel listed a (shut_of h5.2.1) h5.2.2 h
theorem tNc {i:Nat} {is:List Nat} {fuel:Nat} {listed:Array Bool} {a:Act} {w:World} {oi:Oper} {v:Value} (hi:ops[i]? =some oi) (hw:Region.wanted oi (yielded ops a.tmps)=true) (hy:∀w,S w→(execOp a.eval oi).run P w=.ok (.value v) w)
  (h:tkC P md ops Q S C w is fuel (listed.setIfInBounds i true) (a.put oi.dst v)):tkC P md ops Q S C w (i::is) (fuel+1) listed a:=⟨fuel,oi,v,rfl,hi,.inl ⟨hw,hy⟩,h⟩
theorem tEc {fuel:Nat} {listed:Array Bool} {a:Act} {w:World} (h:wpC P md ops Q S C fuel listed a w):tkC P md ops Q S C w [] fuel listed a:=h
theorem bDc {listed:Array Bool} {a:Act} {w:World} {fuel:Nat} (hr:Region.ready md ops listed=[]) (h:Q .normal a w):wpC P md ops Q S C fuel listed a w:=by
 cases fuel with
 |zero=>exact⟨hr,h⟩
 |succ n=>exact⟨fun _=>h,by rw [hr];simp⟩
theorem bOc (i:Nat) {o:Oper} {fuel:Nat} {listed:Array Bool} {a:Act} {w:World} (hr:Region.ready md ops listed=[i]) (hi:ops[i]? =some o)
  (h:∀K:Act→World→Prop,Hid (∀a' w',(i∈C∨S w')∧wpC P md ops Q S C fuel (listed.setIfInBounds i true) a' w'→K a' w')→if Region.wanted o (yielded ops a.tmps)=true then Oper.wp P o a w K Q else K (a.put o.dst undef) w):
  wpC P md ops Q S C (fuel+1) listed a w:=by
 refine⟨fun h0=>absurd (h0.symm.trans hr) (by simp),fun j hj=>?_⟩
 rw [hr] at hj
 obtain rfl:j=i:=by simpa using hj
 exact wpOp_step hi fun K hK=>h K (η hK)
theorem bPc (i j:Nat) {o o':Oper} {fuel:Nat} {listed:Array Bool} {a:Act} {w:World} (hr:Region.ready md ops listed=[i,j]) (hi:ops[i]? =some o) (hj:ops[j]? =some o')
  (h:∀K:Act→World→Prop,Hid (∀a' w',(i∈C∨S w')∧wpC P md ops Q S C fuel (listed.setIfInBounds i true) a' w'→K a' w')→if Region.wanted o (yielded ops a.tmps)=true then Oper.wp P o a w K Q else K (a.put o.dst undef) w)
  (h':∀K:Act→World→Prop,Hid (∀a' w',(j∈C∨S w')∧wpC P md ops Q S C fuel (listed.setIfInBounds j true) a' w'→K a' w')→if Region.wanted o' (yielded ops a.tmps)=true then Oper.wp P o' a w K Q else K (a.put o'.dst undef) w):
  wpC P md ops Q S C (fuel+1) listed a w:=by
 refine⟨fun h0=>absurd (h0.symm.trans hr) (by simp),fun x hx=>?_⟩
 rw [hr] at hx
 have hx:x=i∨x=j:=by simpa using hx
 rcases hx with rfl|rfl
 ·exact wpOp_step hi fun K hK=>h K (η hK)
 ·exact wpOp_step hj fun K hK=>h' K (η hK)
theorem bSc (S:World→Prop) (C:List Nat) {id:Nat} {a:Act} {w:World} (hm:P.follows .mixedOrders=true) (h:∀wd,Grow w wd→w.heap.size=wd.heap.size→wpC P .any ops Q S C ops.size (Array.replicate ops.size false) a wd):(Code.region id ops true).wp P Q a w:=
 wp_region_any hm (wpC_any _ _ _ _ (h w.drew ((Grow.refl _).drew) rfl))
end
theorem i64_low {n:Int} (h:I64 n):-9223372036854775808≤n∧n≤9223372036854775807:=by
 simp [I64,Lit.wf,IntKind.min,IntKind.max,IntKind.signed,IntKind.bits] at h
 omega
theorem i64_oft {n:Int} (h0:-9223372036854775808≤n) (h1:n≤9223372036854775807):I64 n:=by
 simp [I64,Lit.wf,IntKind.min,IntKind.max,IntKind.signed,IntKind.bits]
 omega
def spl:List UInt8→List (List UInt8)
 | []=>[[]]
 |c::l=>if c=32 then []::spl l else match spl l with
  |w::r=>(c::w)::r
  | []=>[[c]]
theorem spl_space (l:List UInt8):spl (32::l)=[]::spl l:=by simp [spl]
theorem spl_ne:∀l:List UInt8,spl l≠ []
 | []=>by simp [spl]
 |c::l=>by
  unfold spl
  split
  ·simp
  ·split<;>simp
theorem spl_cons {c:UInt8} (h:c≠32) (l:List UInt8):∃w r,spl l=w::r∧spl (c::l)=(c::w)::r:=by
 cases e:spl l with
 |nil=>exact absurd e (spl_ne l)
 |cons w r=>exact⟨w,r,rfl,by rw [spl,if_neg h,e]⟩
theorem spl_app:∀(a l:List UInt8),(32:UInt8)∉a→∃w r,spl l=w::r∧spl (a++l)=(a++w)::r
 | [],l,_=>by
  cases e:spl l with
  |nil=>exact absurd e (spl_ne l)
  |cons w r=>exact⟨w,r,rfl,e⟩
 |c::a,l,h=>by
  obtain⟨w,r,e1,e2⟩:=spl_app a l (fun h2=>h (List.mem_cons_of_mem _ h2))
  obtain⟨w2,r2,e3,e4⟩:=spl_cons (c:=c) (fun e=>h (by rw [e];exact List.mem_cons_self)) (a++l)
  rw [e2] at e3
  simp only [List.cons.injEq] at e3
  obtain⟨rfl,rfl⟩:=e3
  exact⟨w,r,e1,e4⟩
theorem spl_word (a:List UInt8) (h:(32:UInt8)∉a):spl a=[a]:=by
 obtain⟨w,r,e1,e2⟩:=spl_app a [] h
 simp [spl] at e1
 obtain⟨rfl,rfl⟩:=e1
 simpa using e2
theorem spl_next (a l:List UInt8) (h:(32:UInt8)∉a):spl (a++32::l)=a::spl l:=by
 obtain⟨w,r,e1,e2⟩:=spl_app a (32::l) h
 rw [spl_space] at e1
 simp only [List.cons.injEq] at e1
 obtain⟨rfl,rfl⟩:=e1
 simpa using e2
theorem splitK_cons {c:UInt8} (h:c≠32) (k:Nat) (l:List UInt8):∃w r,Lib.splitK [32] 0 k l=w::r∧Lib.splitK [32] 0 k (c::l)=(c::w)::r:=by
 cases k with
 |zero=>exact⟨l,[],rfl,rfl⟩
 |succ k=>
  have hp:([32]:List UInt8).isPrefixOf (c::l)=false:=by
   rw [Bool.eq_false_iff];intro e
   rw [List.isPrefixOf_iff_prefix] at e
   obtain⟨t,ht⟩:=e
   simp at ht
   exact h ht.1.symm
  have hge:=Lib.index_ge l [32]
  by_cases hi:Lib.index l [32]= -1
  ·refine⟨l,[],by rw [Lib.splitK,if_pos (by rw [hi];rfl)],?_⟩
   have:Lib.index (c::l) [32]= -1:=by unfold Lib.index;simp [hp,hi]
   rw [Lib.splitK,if_pos (by rw [this];rfl)]
  ·obtain⟨i,hi2⟩:∃i:Nat,Lib.index l [32]=i:=⟨(Lib.index l [32]).toNat,by omega⟩
   have e2:Lib.index (c::l) [32]=((i+1:Nat):Int):=by unfold Lib.index;rw [hp,hi2];simp [show¬((i:Int)= -1) by omega]
   refine⟨l.take (i+0),Lib.splitK [32] 0 k (l.drop (i+1)),?_,?_⟩
   ·rw [Lib.splitK,if_neg (by rw [hi2];intro e;have:=beq_iff_eq.1 e;omega),hi2];rfl
   ·rw [Lib.splitK,if_neg (by rw [e2];intro e;have:=beq_iff_eq.1 e;omega),e2];rfl
theorem splitK_spl:∀s:List UInt8,Lib.splitK [32] 0 (s.count 32) s=spl s
 | []=>rfl
 |c::l=>by
  by_cases h:c=32
  ·subst h
   rw [List.count_cons_self,spl_space,←splitK_spl l]
   have:Lib.index (32::l) [32]=0:=by unfold Lib.index;simp
   rw [Lib.splitK,if_neg (by rw [this];intro e;have:=beq_iff_eq.1 e;omega),this]
   rfl
  ·rw [List.count_cons_of_ne h]
   obtain⟨w,r,e1,e2⟩:=splitK_cons h (l.count 32) l
   obtain⟨w2,r2,e3,e4⟩:=spl_cons h l
   rw [splitK_spl l,e3] at e1
   simp only [List.cons.injEq] at e1
   obtain⟨rfl,rfl⟩:=e1
   rw [e2,e4]
theorem nat48 {d:Nat} (h:d<10):(UInt8.ofNat (48+d)).toNat=48+d:=by
 show(48+d) % 256=48+d
 omega
theorem dec_digit (u:Nat):∀c∈Lib.decDigits u,48≤c.toNat∧c.toNat≤57:=by
 induction u using Nat.strongRecOn with
 |_ u ih=>
  intro c hc
  rw [Lib.decDigits] at hc
  split at hc
  ·rename_i h
   rw [List.mem_singleton] at hc
   subst hc
   rw [nat48 h]
   omega
  ·rename_i h
   rcases List.mem_append.1 hc with h1|h1
   ·exact ih (u/10) (by omega) c h1
   ·rw [List.mem_singleton] at h1
    subst h1
    rw [nat48 (by omega)]
    omega
theorem dec_ne (u:Nat):Lib.decDigits u≠ []:=by
 rw [Lib.decDigits]
 split<;>simp
theorem pu_snoc {d:Nat} (hd:d<10):∀(l:List UInt8) (acc u:Nat),Lib.parseUint10 acc l=.ok u→u*10+d<18446744073709551616→Lib.parseUint10 acc (l++ [UInt8.ofNat (48+d)])=.ok (u*10+d)
 | [],acc,u,h,hu=>by
  simp only [Lib.parseUint10] at h
  injection h with h
  subst h
  have e:(UInt8.ofNat (48+d)).toNat=48+d:=nat48 hd
  simp only [List.nil_append,Lib.parseUint10,e]
  rw [if_pos (by omega),if_neg (by omega),if_neg (by omega)]
  congr 1
  omega
 |c::r,acc,u,h,hu=>by
  simp only [Lib.parseUint10] at h
  split at h
  ·rename_i h1
   split at h
   ·cases h
   ·rename_i h2
    split at h
    ·cases h
    ·rename_i h3
     rw [List.cons_append]
     simp only [Lib.parseUint10]
     rw [if_pos h1,if_neg h2,if_neg h3]
     exact pu_snoc hd r _ u h hu
  ·cases h
theorem pu_dec (u:Nat):u<18446744073709551616→Lib.parseUint10 0 (Lib.decDigits u)=.ok u:=by
 induction u using Nat.strongRecOn with
 |_ u ih=>
  intro hu
  by_cases h:u<10
  ·have e:=pu_snoc h [] 0 0 rfl (by omega)
   rw [Lib.decDigits,dif_pos h]
   simpa using e
  ·have e:=pu_snoc (d:=u % 10) (by omega) _ 0 (u/10) (ih (u/10) (by omega) (by omega)) (by omega)
   rw [Lib.decDigits,dif_neg h,e]
   congr 1
   omega
theorem mag_dec {u:Nat} (hu:u<18446744073709551616):Lib.parseMag (Lib.decDigits u)=.ok u:=by
 rw [Lib.parseMag,if_neg (dec_ne u),pu_dec u hu]
theorem atoi_itoa {n:Int} (hn:I64 n):Lib.atoiAll (Lib.itoa n)=.ok n:=by
 have hn:=i64_low hn
 by_cases h:n<0
 ·rw [Lib.itoa,if_pos h,Lib.atoiAll_minus,mag_dec (by omega)]
  simp only [Lib.signed]
  rw [if_neg (by omega)]
  congr 1
  omega
 ·rw [Lib.itoa,if_neg h]
  cases e:Lib.decDigits n.toNat with
  |nil=>exact absurd e (dec_ne _)
  |cons c r=>
   have hc:=dec_digit n.toNat c (by rw [e];exact List.mem_cons_self)
   rw [Lib.atoiAll_plain c r (by omega) (by omega),←e,mag_dec (by omega)]
   simp only [Lib.signless]
   rw [if_neg (by omega)]
   congr 1
   omega
theorem itoa_chars (n:Int):∀c∈Lib.itoa n,c=45∨(48≤c.toNat∧c.toNat≤57):=by
 intro c hc
 unfold Lib.itoa at hc
 split at hc
 ·rcases List.mem_cons.1 hc with h|h
  ·exact .inl h
  ·exact .inr (dec_digit _ c h)
 ·exact .inr (dec_digit _ c hc)
theorem itoa_no (n:Int):(32:UInt8)∉Lib.itoa n:=fun h=>by
 rcases itoa_chars n _ h with h|h
 ·exact absurd h (by decide)
 ·exact absurd h.1 (by decide)
theorem itoa_one {n:Int} (h0:0≤n) (h9:n≤9):Lib.itoa n=[UInt8.ofNat (48+n.toNat)]:=by
 rw [Lib.itoa,if_neg (by omega),Lib.decDigits,dif_pos (by omega)]
theorem itoa_neg_head {n:Int} (h:n<0):∃r,Lib.itoa n=45::r∧r≠ []:=⟨_,by rw [Lib.itoa,if_pos h],dec_ne _⟩
theorem itoa_pos_head {n:Int} (h:0≤n):∃c r,Lib.itoa n=c::r∧48≤c.toNat∧c.toNat≤57:=by
 cases e:Lib.decDigits n.toNat with
 |nil=>exact absurd e (dec_ne _)
 |cons c r=>exact⟨c,r,by rw [Lib.itoa,if_neg (by omega),e],dec_digit n.toNat c (by rw [e];exact List.mem_cons_self)⟩
def dgt (c:UInt8):Bool:=decide (48≤c.toNat∧c.toNat≤57)
def wordOf (p:Pt):List UInt8:=Lib.itoa p.h++46::(Lib.itoa p.k++((if p.n<0 then [] else [43])++Lib.itoa p.n))
def printE (l:List Pt):List UInt8:=Lib.join (l.map wordOf) [32]
def wordE:List UInt8→Option Pt
 |a::d::b::s::r=>
  if r≠ []∧dgt a=true∧d=46∧dgt b=true∧(s=43∨s=45) then
   match Lib.atoiAll (if s=43 then r else s::r) with
   | .ok n=>if Lib.itoa n=(if s=43 then r else s::r)∧¬(s=43∧n<0)∧¬(s=45∧0≤n) then some ⟨a.toNat - 48,b.toNat - 48,n⟩ else none
   |_=>none
  else none
 |_=>none
def digP:List UInt8→Int×Bool
 | [c]=>if dgt c then((c.toNat:Int) - 48,true) else(0,false)
 |_=>(0,false)
def wordP (w:List UInt8):Option Pt:=
 if(Lib.cut w [46]).2.2=false∨(Lib.cut w [46]).2.1.length<3 then none else
 match Lib.atoiAll (Lib.trimPrefix ((Lib.cut w [46]).2.1.drop 1) [43]) with
 | .ok n=>if(digP (Lib.cut w [46]).1).2=true∧(digP ((Lib.cut w [46]).2.1.take 1)).2=true∧Lib.itoa n=Lib.trimPrefix ((Lib.cut w [46]).2.1.drop 1) [43]∧Lib.hasPrefix ((Lib.cut w [46]).2.1.drop 1) [43]=decide (0≤n) then
   some ⟨(digP (Lib.cut w [46]).1).1,(digP ((Lib.cut w [46]).2.1.take 1)).1,n⟩ else none
 |_=>none
theorem cut_nil:Lib.cut [] [46]=([],[],false):=by decide
theorem cut_at (l:List UInt8):Lib.cut (46::l) [46]=([],l,true):=by
 have:Lib.index (46::l) [46]=0:=by unfold Lib.index;simp
 unfold Lib.cut
 rw [if_pos (by rw [this];decide),this]
 rfl
theorem cut_cons {c:UInt8} (h:c≠46) (l:List UInt8):Lib.cut (c::l) [46]=if(Lib.cut l [46]).2.2=true then(c::(Lib.cut l [46]).1,(Lib.cut l [46]).2.1,true) else(c::l,[],false):=by
 have hp:([46]:List UInt8).isPrefixOf (c::l)=false:=by
  rw [Bool.eq_false_iff];intro e
  rw [List.isPrefixOf_iff_prefix] at e
  obtain⟨t,ht⟩:=e
  simp at ht
  exact h ht.1.symm
 have hge:=Lib.index_ge l [46]
 by_cases hi:Lib.index l [46]= -1
 ·have e:Lib.index (c::l) [46]= -1:=by unfold Lib.index;simp [hp,hi]
  unfold Lib.cut
  rw [e,hi]
  simp
 ·obtain⟨i,hi2⟩:∃i:Nat,Lib.index l [46]=i:=⟨(Lib.index l [46]).toNat,by omega⟩
  have e2:Lib.index (c::l) [46]=((i+1:Nat):Int):=by unfold Lib.index;rw [hp,hi2];simp [show¬((i:Int)= -1) by omega]
  unfold Lib.cut
  rw [e2,hi2]
  simp [show(0:Int)≤(i:Int)+1 by omega]
theorem dg46:dgt 46=false:=by decide
theorem digP_two (a b:UInt8) (l:List UInt8):digP (a::b::l)=(0,false):=rfl
theorem wordP_far {w:List UInt8} (h:(digP (Lib.cut w [46]).1).2=false):wordP w=none:=by
 unfold wordP
 split
 ·rfl
 ·split
  ·rw [if_neg (fun e=>by rw [h] at e;exact absurd e.1 (by decide))]
  ·rfl
theorem wordP_short {w:List UInt8} (h:(Lib.cut w [46]).2.2=false∨(Lib.cut w [46]).2.1.length<3):wordP w=none:=by
 unfold wordP
 rw [if_pos h]
theorem has43 (s:UInt8) (r:List UInt8):Lib.hasPrefix (s::r) [43]=decide (s=43):=by
 unfold Lib.hasPrefix
 rw [Bool.eq_iff_iff,List.isPrefixOf_iff_prefix,decide_eq_true_eq]
 constructor
 ·rintro⟨t,ht⟩
  simp at ht
  exact ht.1.symm
 ·rintro rfl
  exact⟨r,rfl⟩
theorem trim43 (s:UInt8) (r:List UInt8):Lib.trimPrefix (s::r) [43]=if s=43 then r else s::r:=by
 unfold Lib.trimPrefix
 rw [has43]
 by_cases h:s=43<;>simp [h]
theorem wordP_eq (w:List UInt8):wordP w=wordE w:=by
 match w with
 | []=>exact wordP_short (.inl (by rw [cut_nil]))
 | [a]=>
  by_cases h:a=46
  ·subst h
   exact wordP_short (.inr (by rw [cut_at];decide))
  ·exact wordP_short (.inl (by rw [cut_cons h,cut_nil];rfl))
 |a::d::rest=>
  by_cases ha:a=46
  ·subst ha
   rw [wordP_far (by rw [cut_at];rfl)]
   match rest with
   | []=>rfl
   | [_]=>rfl
   |b::s::r=>
    rw [wordE,if_neg (fun e=>by rw [dg46] at e;exact absurd e.2.1 (by decide))]
  by_cases hd:d=46
  ·subst hd
   have hcut:Lib.cut (a::46::rest) [46]=([a],rest,true):=by rw [cut_cons ha,cut_at];rfl
   match rest,hcut with
   | [],hcut=>exact wordP_short (.inr (by rw [hcut];simp))
   | [_],hcut=>exact wordP_short (.inr (by rw [hcut];simp))
   | [_,_],hcut=>
    rw [wordP_short (.inr (by rw [hcut];simp)),wordE,if_neg (fun e=>e.1 rfl)]
   |b::s::c::r,hcut=>
    unfold wordP wordE
    rw [hcut]
    rw [if_neg (by simp)]
    simp only [List.drop_succ_cons,List.drop_zero,List.take_succ_cons,List.take_zero,trim43,has43]
    generalize hx:(if s=43 then c::r else s::c::r)=x
    have hda:(digP [a]).2=dgt a:=by show(if dgt a=true then((a.toNat:Int) - 48,true) else(0,false)).2=dgt a;cases dgt a<;>rfl
    have hdb:(digP [b]).2=dgt b:=by show(if dgt b=true then((b.toNat:Int) - 48,true) else(0,false)).2=dgt b;cases dgt b<;>rfl
    have ha1:dgt a=true→(digP [a]).1=(a.toNat:Int) - 48:=fun h=>by show(if dgt a=true then((a.toNat:Int) - 48,true) else(0,false)).1=_;rw [if_pos h]
    have hb1:dgt b=true→(digP [b]).1=(b.toNat:Int) - 48:=fun h=>by show(if dgt b=true then((b.toNat:Int) - 48,true) else(0,false)).1=_;rw [if_pos h]
    rw [hda,hdb]
    rcases hat:Lib.atoiAll x with n|_|_
    ·simp only
     by_cases hg:dgt a=true∧dgt b=true∧Lib.itoa n=x
     ·obtain⟨g1,g2,g3⟩:=hg
      rw [ha1 g1,hb1 g2]
      by_cases hs:s=43
      ·subst hs
       simp [g1,g2,g3]
      ·rw [if_neg hs] at hx
       by_cases hn:0≤n
       ·simp [g1,g2,g3,hs,hn]
       ·obtain⟨r2,e2,-⟩:=itoa_neg_head (n:=n) (by omega)
        have h45:s=45:=by
         rw [g3,←hx] at e2
         simp at e2
         exact e2.1
        subst h45
        simp [g1,g2,g3,hn]
     ·rw [if_neg (fun e=>hg ⟨e.1,e.2.1,e.2.2.1⟩)]
      split
      ·rename_i h5
       rw [if_neg (fun e=>hg ⟨h5.2.1,h5.2.2.2.1,e.1⟩)]
      ·rfl
    ·simp
    ·simp
  ·have h1:(digP (Lib.cut (a::d::rest) [46]).1).2=false:=by
    rw [cut_cons ha,cut_cons hd]
    split<;>split<;>simp_all [digP_two]
   rw [wordP_far h1]
   match rest with
   | []=>rfl
   | [_]=>rfl
   |b::s::r=>rw [wordE,if_neg (fun e=>hd e.2.2.1)]
theorem wordOf_no (p:Pt):(32:UInt8)∉wordOf p:=by
 intro h
 unfold wordOf at h
 simp only [List.mem_append,List.mem_cons] at h
 rcases h with h|h|h|h|h
 ·exact itoa_no _ h
 ·exact absurd h (by decide)
 ·exact itoa_no _ h
 ·split at h
  ·simp at h
  ·simp at h
 ·exact itoa_no _ h
theorem dgt_of {n:Int} (h0:0≤n) (h9:n≤9):dgt (UInt8.ofNat (48+n.toNat))=true∧((UInt8.ofNat (48+n.toNat)).toNat:Int) - 48=n:=by
 have e:(UInt8.ofNat (48+n.toNat)).toNat=48+n.toNat:=nat48 (by omega)
 unfold dgt
 rw [e]
 exact⟨by simp;omega,by omega⟩
theorem wordE_of {p:Pt} (hh:0≤p.h∧p.h≤9) (hk:0≤p.k∧p.k≤9) (hn:I64 p.n):wordE (wordOf p)=some p:=by
 obtain⟨a1,a2⟩:=dgt_of hh.1 hh.2
 obtain⟨b1,b2⟩:=dgt_of hk.1 hk.2
 have hat:=atoi_itoa hn
 unfold wordOf
 rw [itoa_one hh.1 hh.2,itoa_one hk.1 hk.2]
 by_cases h:p.n<0
 ·obtain⟨r,e,hr⟩:=itoa_neg_head h
  rw [if_pos h,List.nil_append,e]
  rw [e] at hat
  simp only [List.cons_append,List.nil_append]
  rw [wordE]
  rw [if_pos (by exact⟨hr,a1,rfl,b1,.inr rfl⟩),if_neg (by decide),hat]
  dsimp only
  rw [if_pos ⟨e,by simp,by simp;omega⟩,a2,b2]
 ·obtain⟨c,r,e,-⟩:=itoa_pos_head (n:=p.n) (by omega)
  rw [if_neg h,e]
  rw [e] at hat
  simp only [List.cons_append,List.nil_append]
  rw [wordE]
  rw [if_pos (by exact⟨by simp,a1,rfl,b1,.inl rfl⟩),if_pos (by decide),hat]
  dsimp only
  rw [if_pos ⟨e,by simp;omega,by simp⟩,a2,b2]
theorem itoa_dgt {a:UInt8} (h:dgt a=true):Lib.itoa ((a.toNat:Int) - 48)=[a]:=by
 unfold dgt at h
 simp at h
 rw [itoa_one (by omega) (by omega)]
 congr 1
 apply UInt8.toNat_inj.1
 rw [nat48 (by omega)]
 omega
theorem wordE_back {w:List UInt8} {p:Pt} (h:wordE w=some p):wordOf p=w:=by
 match w with
 | []=>cases h
 | [_]=>cases h
 | [_,_]=>cases h
 | [_,_,_]=>cases h
 |a::d::b::s::r=>
  rw [wordE] at h
  by_cases hc:r≠ []∧dgt a=true∧d=46∧dgt b=true∧(s=43∨s=45)
  ·rw [if_pos hc] at h
   obtain⟨-,ga,rfl,gb,gs⟩:=hc
   generalize hx:(if s=43 then r else s::r)=x at h
   rcases hat:Lib.atoiAll x with n|_|_
   ·rw [hat] at h
    dsimp only at h
    by_cases hq:Lib.itoa n=x∧¬(s=43∧n<0)∧¬(s=45∧0≤n)
    ·rw [if_pos hq] at h
     obtain⟨q1,q2,q3⟩:=hq
     have h:=(Option.some.inj h).symm
     subst h
     unfold wordOf
     dsimp only
     rw [itoa_dgt ga,itoa_dgt gb,q1,←hx]
     rcases gs with rfl|rfl
     ·have:¬n<0:=fun e=>q2 ⟨rfl,e⟩
      rw [if_neg this,if_pos rfl]
      rfl
     ·have:n<0:=by
       by_cases e:n<0
       ·exact e
       ·exact absurd ⟨rfl,by omega⟩ q3
      rw [if_pos this,if_neg (by decide)]
      rfl
    ·rw [if_neg hq] at h;cases h
   ·rw [hat] at h;cases h
   ·rw [hat] at h;cases h
  ·rw [if_neg hc] at h;cases h
def wordsE:List (List UInt8)→Option (List Pt)
 | []=>some []
 |w::r=>match wordE w with
  |none=>none
  |some p=>(wordsE r).map (p:: ·)
def parseE (s:List UInt8):List Pt×Int:=match wordsE (spl s) with
 |none=>([],2)
 |some l=>if wrongE l 3=0 then(l,0) else([],wrongE l 3)
theorem words_back:∀{ws:List (List UInt8)} {l:List Pt},wordsE ws=some l→l.map wordOf=ws
 | [],l,h=>by
  simp [wordsE] at h
  subst h
  rfl
 |w::r,l,h=>by
  rw [wordsE] at h
  split at h
  ·cases h
  ·rename_i p hp
   cases e:wordsE r with
   |none=>rw [e] at h;cases h
   |some l2=>
    rw [e] at h
    simp at h
    subst h
    rw [List.map_cons,wordE_back hp,words_back e]
theorem words_of:∀{l:List Pt},(∀p∈l,wordE (wordOf p)=some p)→wordsE (l.map wordOf)=some l
 | [],_=>rfl
 |p::l,h=>by
  rw [List.map_cons,wordsE,h p List.mem_cons_self]
  simp only
  rw [words_of (fun q hq=>h q (List.mem_cons_of_mem _ hq))]
  rfl
theorem spl_print:∀{l:List Pt},l≠ []→spl (printE l)=l.map wordOf
 | [],h=>absurd rfl h
 | [p],_=>by
  unfold printE
  rw [List.map_cons,List.map_nil,Lib.join_one,spl_word _ (wordOf_no p)]
 |p::q::l,_=>by
  have ih:=spl_print (l:=q::l) (by simp)
  unfold printE at ih ⊢
  rw [List.map_cons,List.map_cons,Lib.join_cons]
  rw [List.map_cons,Lib.join_cons] at ih
  simp only [Lib.joinTail,List.map_cons,List.flatten_cons,List.cons_append,List.nil_append]
  rw [spl_next _ _ (wordOf_no p)]
  simp only [Lib.joinTail,List.cons_append,List.nil_append] at ih
  rw [ih]
theorem parse_print {l:List Pt} (h:wrongE l 3=0):parseE (printE l)=(l,0):=by
 obtain⟨h1,-,h3,-⟩:=wrong_ok h
 unfold parseE
 rw [spl_print (fun e=>by rw [e] at h1;simp at h1),words_of (fun p hp=>by
  have:=h3 p hp
  exact wordE_of ⟨this.1,by omega⟩ ⟨this.2.2.1,by omega⟩ (i64_oft (by omega) (by omega)))]
 simp only
 rw [if_pos h]
structure Vars (w:World):Prop where
 len:∃m,w.cell? ⟨0,0,none⟩=some (.int .i64 m)
 tab:Lib.TabIs Tryz.prog w "internal/strconv.uint64pow10" .u64 Lib.pow10Tab
 syn:∃ tp p,w.var? Tryz.prog "strconv.ErrSyntax" = some #[.iface tp p]
 rng:∃ tp p,w.var? Tryz.prog "strconv.ErrRange" = some #[.iface tp p]
 low:0<w.heap.size∧5<w.heap.size∧1<w.heap.size∧2<w.heap.size
theorem Vars.grow {w w':World} (h:Vars w) (g:Grow w w'):Vars w' where
 len:=h.len.imp fun _ hm=>g.sub _ _ hm
 tab:=var?_below g (show Tryz.prog.globalNamed "internal/strconv.uint64pow10" = some 5 by kernel_rfl) h.low.2.1 h.tab
 syn:=by obtain ⟨tp,p,e⟩:=h.syn;exact ⟨tp,p,var?_below g (show Tryz.prog.globalNamed "strconv.ErrSyntax" = some 1 by kernel_rfl) h.low.2.2.1 e⟩
 rng:=by obtain ⟨tp,p,e⟩:=h.rng;exact ⟨tp,p,var?_below g (show Tryz.prog.globalNamed "strconv.ErrRange" = some 2 by kernel_rfl) h.low.2.2.2 e⟩
 low:=by have:=g.size;have:=h.low;omega
theorem digP_one (c:UInt8):digP [c]=if dgt c=true then((c.toNat:Int) - 48,true) else(0,false):=rfl
theorem digP_not {l:List UInt8} (h:l.length≠1):digP l=(0,false):=by
 match l with
 | []=>rfl
 | [_]=>exact absurd rfl h
 |_::_::_=>rfl
theorem text_digit (s:ByteArray) (w:World):Calls Tryz.prog 57 #[.string s] w fun e w'=>e=.returned (.tuple #[.int .i64 (digP s.data.toList).1,.bool (digP s.data.toList).2])∧Grow w w':=by
 by_cases hl:s.size=1
 ·have HD:Hid (digP s.data.toList=if 48≤s[0].toNat∧s[0].toNat≤57 then((s[0].toNat:Int) - 48,true) else(0,false)):=η (by
   obtain⟨c,rfl⟩:=Lib.one_byte s hl
   show digP [c]=if 48≤c.toNat∧c.toNat≤57 then((c.toNat:Int) - 48,true) else(0,false)
   rw [digP_one]
   unfold dgt
   simp only [decide_eq_true_eq])
  go_enter Tryz.func57,Tryz.ntmps57
  go_wp2
  all_goals go_ret2
  all_goals rw [HD.o]
  all_goals refine⟨?_,Grow.refl _⟩
  all_goals first|(rw [if_neg (by omega)];rfl)|(rw [if_pos (by omega)];rfl)
 ·have HD:Hid (digP s.data.toList=(0,false)):=η (digP_not (by rw [←Lib.size_eq];exact hl))
  have t1:((s.size:Int) !=1)=true:=by simp;omega
  clear hl
  go_enter Tryz.func57,Tryz.ntmps57
  go_wp2
  all_goals go_ret2
  all_goals rw [HD.o]
  all_goals exact⟨rfl,Grow.refl _⟩
theorem cut_call (s:ByteArray) {w:World} (hV:Vars w) (hs:s.size<4294967281):∃(a b:ByteArray) (c:Bool),Lib.cut s.data.toList [46]=(a.data.toList,b.data.toList,c)∧
  ∀W,Grow w W→Calls Tryz.prog 56 #[.string s,.string ⟨#[46]⟩] W fun e w'=>e=.returned (.tuple #[.string a,.string b,.bool c])∧Grow W w':=by
 obtain⟨m,hm⟩:=hV.len
 refine⟨⟨(Lib.cut s.data.toList [46]).1.toArray⟩,⟨(Lib.cut s.data.toList [46]).2.1.toArray⟩,(Lib.cut s.data.toList [46]).2.2,rfl,fun W hW=>?_⟩
 refine(Tryz.strings_Cut s ⟨#[46]⟩ m W hs (hW.sub _ _ hm)).mono ?_
 rintro e w' ⟨rfl,n,rfl⟩
 exact⟨rfl,(Grow.refl _).drewN n⟩
theorem pre_call (s:ByteArray):∃a:ByteArray,Lib.trimPrefix s.data.toList [43]=a.data.toList∧a.size≤s.size∧
  ∀W,Calls Tryz.prog 58 #[.string s,.string ⟨#[43]⟩] W fun e w'=>e=.returned (.tuple #[.string a,.bool (Lib.hasPrefix s.data.toList [43])])∧Grow W w':=by
 refine⟨⟨(Lib.trimPrefix s.data.toList [43]).toArray⟩,rfl,?_,fun W=>?_⟩
 ·rw [Lib.size_eq,Lib.size_eq]
  show(Lib.trimPrefix s.data.toList [43]).length≤_
  unfold Lib.trimPrefix
  split<;>simp
 refine(Tryz.strings_CutPrefix s ⟨#[43]⟩ W).mono ?_
 rintro e w' ⟨rfl,rfl⟩
 exact⟨rfl,Grow.refl _⟩
theorem itoa_call {n:Int} (hn:I64 n) {w:World} (hV:Vars w) (W:World) (hW:Grow w W):Calls Tryz.prog 60 #[.int .i64 n] W fun e w'=>e=.returned (.string ⟨(Lib.itoa n).toArray⟩)∧Grow W w':=by
 have h:=i64_low hn
 refine(Tryz.strconv_Itoa n h.1 h.2 W (hV.grow hW).tab).mono ?_
 rintro e w' ⟨rfl,k,os,rfl⟩
 exact⟨rfl,Lib.below_grow _ _ (Nat.le_refl _) _ _⟩
theorem atoi_ok {s:ByteArray} (hs:s.size<4294967281) {n:Int} (h:Lib.atoiAll s.data.toList=.ok n) (W:World):Calls Tryz.prog 59 #[.string s] W fun e w'=>e=.returned (.tuple #[.int .i64 n,.nilIface])∧Grow W w':=by
 refine(Tryz.strconv_Atoi_ok s (by omega) n h W).mono ?_
 rintro e w' ⟨rfl,rfl|⟨t,rfl⟩⟩
 ·exact⟨rfl,Grow.refl _⟩
 ·exact⟨rfl,Lib.bytesWorld_below _ _ _⟩
theorem atoi_no {s:ByteArray} (hs:s.size<4294967281) (h:∀n,Lib.atoiAll s.data.toList≠ .ok n) {w:World} (hV:Vars w) (W:World) (hW:Grow w W):
  Calls Tryz.prog 59 #[.string s] W fun e w'=>∃n t N,e=.returned (.tuple #[.int .i64 n,.iface t (.pointer (some ⟨N,0,none⟩))])∧Grow W w':=by
 rcases hc:Lib.atoiAll s.data.toList with n|_|_
 ·exact absurd hc (h n)
 ·obtain⟨tp,p,e⟩:=(hV.grow hW).syn
  refine(Any.strconv_Atoi_syntax_var Tryz.laysC172 s (by omega) hc tp p W e).mono ?_
  rintro e w' ⟨N,rfl,-,-,hb⟩
  exact⟨_,_,N,rfl,hb⟩
 ·obtain⟨tp,p,e⟩:=(hV.grow hW).rng
  refine(Any.strconv_Atoi_range_var Tryz.laysC172 s (by omega) hc tp p W e).mono ?_
  rintro e w' ⟨N,rfl,-,-,hb⟩
  exact⟨_,_,N,rfl,hb⟩
theorem word_ok {l:List UInt8} {p:Pt} (h:wordE l=some p):I64 p.h∧I64 p.k∧I64 p.n:=by
 match l with
 | []=>cases h
 | [_]=>cases h
 | [_,_]=>cases h
 | [_,_,_]=>cases h
 |a::d::b::s::r=>
  rw [wordE] at h
  by_cases hc:r≠ []∧dgt a=true∧d=46∧dgt b=true∧(s=43∨s=45)
  ·rw [if_pos hc] at h
   have ha:=a.toNat_lt
   have hb:=b.toNat_lt
   generalize (if s=43 then r else s::r)=x at h
   rcases hat:Lib.atoiAll x with n|_|_
   ·rw [hat] at h
    dsimp only at h
    by_cases hq:Lib.itoa n=x∧¬(s=43∧n<0)∧¬(s=45∧0≤n)
    ·rw [if_pos hq] at h
     have h:=(Option.some.inj h).symm
     subst h
     have hb2:=Lib.atoiAll_bounds hat
     exact⟨i64_oft (by dsimp only;omega) (by dsimp only;omega),i64_oft (by dsimp only;omega) (by dsimp only;omega),i64_oft hb2.1 hb2.2⟩
    ·rw [if_neg hq] at h;cases h
   ·rw [hat] at h;cases h
   ·rw [hat] at h;cases h
  ·rw [if_neg hc] at h;cases h
theorem info_pt0:(Tryz.prog.info? 31).map (·.size)=some 3:=by kernel_rfl
theorem cells3t {w:World} {B:Nat} {a b c:Value} {t:TypeId} (h:w.heap[B]? =some (.cells #[a,b,c] t (0,0))):
  w.cell? ⟨B,0,none⟩=some a∧w.cell? ⟨B,1,none⟩=some b∧w.cell? ⟨B,2,none⟩=some c:=by
 refine⟨?_,?_,?_⟩<;>simp [World.cell?,h]
set_option maxRecDepth 100000 in
set_option maxHeartbeats 2000000 in
theorem text_one (s:ByteArray) (w:World) (hV:Vars w) (hs:s.size<4294967281):
  Calls Tryz.prog 32 #[.string s] w fun e w'=>e=.returned (.tuple #[.agg ((wordE s.data.toList).getD ⟨0,0,0⟩).cells.toArray,.bool (wordE s.data.toList).isSome])∧Grow w w':=by
 have HWP:=η (wordP_eq s.data.toList)
 obtain⟨a,b,ok,hcut,hcu⟩:=cut_call s hV hs
 have HCU:=η hcu
 have HC:=η hcut
 have HV:=η hV
 have hbs:b.size≤s.size:=by
  have h1:b.data.toList=(Lib.cut s.data.toList [46]).2.1:=by rw [hcut]
  rw [Lib.size_eq,Lib.size_eq,h1]
  unfold Lib.cut
  split<;>simp
 obtain⟨wa,hwa⟩:∃y:World,y=w.alloc (.cells #[.int .i64 0,.int .i64 0,.int .i64 0] 31):=⟨_,rfl⟩
 have R1:Hid (wa.heap[w.heap.size]? =some (.cells #[.int .i64 0,.int .i64 0,.int .i64 0] 31 (0,0))):=η (by rw [hwa];exact row_new _ _)
 have G1:Hid (Grow w wa):=η (by rw [hwa];exact(Grow.refl w).alloc _)
 clear hcut hcu hV
 go_enter Tryz.func32,Tryz.ntmps32
 go_wp2_with fail
 rw [←hwa]
 refine(HCU.o _ G1.o).mono ?_
 rintro e w2 ⟨rfl,g2⟩
 have R2:=η (row_grow R1.o g2)
 have G2:=η (G1.o.trans g2)
 clear hwa g2 R1 G1 HCU
 by_cases hsh:ok=false∨b.size<3
 ·have HN:Hid (wordE s.data.toList=none):=η (by
   rw [←HWP.o]
   exact wordP_short (by rw [HC.o];show ok=false∨b.data.toList.length<3;rw [←Lib.size_eq];exact hsh))
  have ht:ok=true→decide ((b.size:Int)<3)=true:=fun e=>by
   rcases hsh with h|h
   ·rw [h] at e;cases e
   ·simp;omega
  clear hsh
  cases ok
  ·clear ht
   go_wp2_with (first|(refine wpList_store_row rfl (.tmp 2) (.tmp 28) rfl rfl rfl R2.o info_pt0 rfl rfl ?_))
   intro w7 r7 g7
   obtain⟨p0,p1,p2⟩:=cells3t r7
   go_wp2
   refine bodyPost_ret (v:=.tuple #[.agg #[.int .i64 0,.int .i64 0,.int .i64 0],.bool false]) (by simp [results,Tryz.results32,go_sem,p0,p1,p2]) rfl ?_
   rw [HN.o]
   exact⟨rfl,G2.o.grown g7 (fun k hk=>by simp at hk;omega)⟩
  ·have ht2:=ht rfl
   clear ht
   go_wp2_with (first|(refine wpList_store_row rfl (.tmp 2) (.tmp 28) rfl rfl rfl R2.o info_pt0 rfl rfl ?_))
   intro w7 r7 g7
   obtain⟨p0,p1,p2⟩:=cells3t r7
   go_wp2
   refine bodyPost_ret (v:=.tuple #[.agg #[.int .i64 0,.int .i64 0,.int .i64 0],.bool false]) (by simp [results,Tryz.results32,go_sem,p0,p1,p2]) rfl ?_
   rw [HN.o]
   exact⟨rfl,G2.o.grown g7 (fun k hk=>by simp at hk;omega)⟩
 ·have hok:ok=true:=by
   cases ok with
   |true=>rfl
   |false=>exact absurd (.inl rfl) hsh
  have hb3:3≤b.size:=Nat.le_of_not_lt fun h=>hsh (.inr h)
  subst hok
  have ht:decide ((b.size:Int)<3)=false:=by simp;omega
  obtain⟨c,hc,hcs,hpre⟩:=pre_call (b.extract 1 b.size)
  have hes:(b.extract 1 b.size).size≤b.size:=by rw [Lib.size_eq,Lib.extract_to_end,Lib.size_eq,List.length_drop];omega
  have hcs2:c.size<4294967281:=by omega
  clear hes hcs
  have HE:Hid (wordE s.data.toList=match Lib.atoiAll c.data.toList with
    | .ok n=>if(digP a.data.toList).2=true∧(digP (b.extract 0 1).data.toList).2=true∧Lib.itoa n=c.data.toList∧Lib.hasPrefix (b.extract 1 b.size).data.toList [43]=decide (0≤n) then some ⟨(digP a.data.toList).1,(digP (b.extract 0 1).data.toList).1,n⟩ else none
    |_=>none):=η (by
   rw [←HWP.o]
   unfold wordP
   rw [HC.o]
   dsimp only
   rw [if_neg (by rw [←Lib.size_eq];exact fun h=>h.elim (fun h=>by cases h) (fun h=>by omega)),←Lib.extract_from_zero,←Lib.extract_to_end,hc]
   try rfl)
  have HD1:=η (text_digit a)
  have HD2:=η (text_digit (b.extract 0 1))
  have HPR:=η hpre
  clear hpre hc hsh HC HWP hbs
  generalize Lib.hasPrefix (b.extract 1 b.size).data.toList [43]=pl at*
  generalize digP a.data.toList=d1 at*
  generalize digP (b.extract 0 1).data.toList=d2 at*
  obtain⟨hx,da⟩:=d1
  obtain⟨k,db⟩:=d2
  dsimp only at HE HD1 HD2
  go_wp2_with fail
  refine(HD1.o _).mono ?_
  rintro e w3 ⟨rfl,g3⟩
  have R3:=η (row_grow R2.o g3)
  have G3:=η (G2.o.trans g3)
  clear g3 R2 G2 HD1
  go_wp2_with fail
  refine(HD2.o _).mono ?_
  rintro e w4 ⟨rfl,g4⟩
  have R4:=η (row_grow R3.o g4)
  have G4:=η (G3.o.trans g4)
  clear g4 R3 G3 HD2
  go_wp2_with fail
  refine(HPR.o _).mono ?_
  rintro e w5 ⟨rfl,g5⟩
  have R5:=η (row_grow R4.o g5)
  have G5:=η (G4.o.trans g5)
  clear g5 R4 G4 HPR
  by_cases hat:∃n,Lib.atoiAll c.data.toList=.ok n
  ·obtain⟨n,hn⟩:=hat
   have hI:=Lib.atoiAll_bounds hn
   have HIT:=η (itoa_call (i64_oft hI.1 hI.2) HV.o)
   have HAT:=η (atoi_ok hcs2 hn)
   have HE2:Hid (wordE s.data.toList=if da=true∧db=true∧Lib.itoa n=c.data.toList∧pl=decide (0≤n) then some ⟨hx,k,n⟩ else none):=η (by rw [HE.o,hn])
   clear hn HE hI
   go_wp2_with fail
   refine(HAT.o _).mono ?_
   rintro e w6 ⟨rfl,g6⟩
   have R6:=η (row_grow R5.o g6)
   have G6:=η (G5.o.trans g6)
   clear g6 R5 G5 HAT
   by_cases hab:da=true∧db=true
   ·obtain⟨rfl,rfl⟩:=hab
    go_wp2_with fail
    refine(HIT.o _ G6.o).mono ?_
    rintro e w8 ⟨rfl,g8⟩
    have R6:=η (row_grow R6.o g8)
    have G6:=η (G6.o.trans g8)
    clear g8
    by_cases hq1:Lib.itoa n=c.data.toList
    ·have tS:Lib.itoa n=c.toList:=by rw [Lib.toList_data,←hq1]
     by_cases hn0:0≤n
     ·cases pl
      ·have HN:Hid (wordE s.data.toList=none):=η (by rw [HE2.o,if_neg (by simp [hn0])])
       have tq:decide (0≤n)=true:=by simpa using hn0
       clear hn0 hq1 HE2
       go_wp2_with (first|(refine wpList_store_row rfl (.tmp 2) (.tmp 73) rfl rfl rfl R6.o info_pt0 rfl rfl ?_))
       intro w7 r7 g7
       obtain⟨p0,p1,p2⟩:=cells3t r7
       go_wp2
       refine bodyPost_ret (v:=.tuple #[.agg #[.int .i64 0,.int .i64 0,.int .i64 0],.bool false]) (by simp [results,Tryz.results32,go_sem,p0,p1,p2]) rfl ?_
       rw [HN.o]
       exact⟨rfl,G6.o.grown g7 (fun k hk=>by simp at hk;omega)⟩
      ·have HN:Hid (wordE s.data.toList=some ⟨hx,k,n⟩):=η (by rw [HE2.o,if_pos (by simp [hq1,hn0])])
       have tq:decide (0≤n)=true:=by simpa using hn0
       clear hn0 hq1 HE2
       go_wp2_with (first|(refine wpList_store_row rfl (.tmp 2) (.tmp 77) rfl rfl rfl R6.o info_pt0 rfl rfl ?_))
       intro w7 r7 g7
       obtain⟨p0,p1,p2⟩:=cells3t r7
       go_wp2
       refine bodyPost_ret (v:=.tuple #[.agg #[.int .i64 hx,.int .i64 k,.int .i64 n],.bool true]) (by simp [results,Tryz.results32,go_sem,p0,p1,p2]) rfl ?_
       rw [HN.o]
       exact⟨rfl,G6.o.grown g7 (fun k hk=>by simp at hk;omega)⟩
     ·cases pl
      ·have HN:Hid (wordE s.data.toList=some ⟨hx,k,n⟩):=η (by rw [HE2.o,if_pos (by simp [hq1,hn0])])
       have tq:decide (0≤n)=false:=by simpa using hn0
       clear hn0 hq1 HE2
       go_wp2_with (first|(refine wpList_store_row rfl (.tmp 2) (.tmp 77) rfl rfl rfl R6.o info_pt0 rfl rfl ?_))
       intro w7 r7 g7
       obtain⟨p0,p1,p2⟩:=cells3t r7
       go_wp2
       refine bodyPost_ret (v:=.tuple #[.agg #[.int .i64 hx,.int .i64 k,.int .i64 n],.bool true]) (by simp [results,Tryz.results32,go_sem,p0,p1,p2]) rfl ?_
       rw [HN.o]
       exact⟨rfl,G6.o.grown g7 (fun k hk=>by simp at hk;omega)⟩
      ·have HN:Hid (wordE s.data.toList=none):=η (by rw [HE2.o,if_neg (by simp [hn0])])
       have tq:decide (0≤n)=false:=by simpa using hn0
       clear hn0 hq1 HE2
       go_wp2_with (first|(refine wpList_store_row rfl (.tmp 2) (.tmp 73) rfl rfl rfl R6.o info_pt0 rfl rfl ?_))
       intro w7 r7 g7
       obtain⟨p0,p1,p2⟩:=cells3t r7
       go_wp2
       refine bodyPost_ret (v:=.tuple #[.agg #[.int .i64 0,.int .i64 0,.int .i64 0],.bool false]) (by simp [results,Tryz.results32,go_sem,p0,p1,p2]) rfl ?_
       rw [HN.o]
       exact⟨rfl,G6.o.grown g7 (fun k hk=>by simp at hk;omega)⟩
    ·have tS:¬Lib.itoa n=c.toList:=by rw [Lib.toList_data];exact hq1
     have HN:Hid (wordE s.data.toList=none):=η (by rw [HE2.o,if_neg (fun e=>hq1 e.2.2.1)])
     clear hq1 HE2
     go_wp2_with (first|(refine wpList_store_row rfl (.tmp 2) (.tmp 73) rfl rfl rfl R6.o info_pt0 rfl rfl ?_))
     intro w7 r7 g7
     obtain⟨p0,p1,p2⟩:=cells3t r7
     go_wp2
     refine bodyPost_ret (v:=.tuple #[.agg #[.int .i64 0,.int .i64 0,.int .i64 0],.bool false]) (by simp [results,Tryz.results32,go_sem,p0,p1,p2]) rfl ?_
     rw [HN.o]
     exact⟨rfl,G6.o.grown g7 (fun k hk=>by simp at hk;omega)⟩
   ·have HN:Hid (wordE s.data.toList=none):=η (by rw [HE2.o,if_neg (fun e=>hab ⟨e.1,e.2.1⟩)])
    clear HE2 HIT
    cases da
    ·clear hab
     go_wp2_with (first|(refine wpList_store_row rfl (.tmp 2) (.tmp 73) rfl rfl rfl R6.o info_pt0 rfl rfl ?_))
     intro w7 r7 g7
     obtain⟨p0,p1,p2⟩:=cells3t r7
     go_wp2
     refine bodyPost_ret (v:=.tuple #[.agg #[.int .i64 0,.int .i64 0,.int .i64 0],.bool false]) (by simp [results,Tryz.results32,go_sem,p0,p1,p2]) rfl ?_
     rw [HN.o]
     exact⟨rfl,G6.o.grown g7 (fun k hk=>by simp at hk;omega)⟩
    ·cases db
     ·clear hab
      go_wp2_with (first|(refine wpList_store_row rfl (.tmp 2) (.tmp 73) rfl rfl rfl R6.o info_pt0 rfl rfl ?_))
      intro w7 r7 g7
      obtain⟨p0,p1,p2⟩:=cells3t r7
      go_wp2
      refine bodyPost_ret (v:=.tuple #[.agg #[.int .i64 0,.int .i64 0,.int .i64 0],.bool false]) (by simp [results,Tryz.results32,go_sem,p0,p1,p2]) rfl ?_
      rw [HN.o]
      exact⟨rfl,G6.o.grown g7 (fun k hk=>by simp at hk;omega)⟩
     ·exact absurd ⟨rfl,rfl⟩ hab
  ·have HAT:=η (atoi_no hcs2 (fun n e=>hat ⟨n,e⟩) HV.o)
   have HN:Hid (wordE s.data.toList=none):=η (by
    rw [HE.o]
    rcases e:Lib.atoiAll c.data.toList with n|_|_
    ·exact absurd ⟨n,e⟩ hat
    ·rfl
    ·rfl)
   clear hat HE
   go_wp2_with fail
   refine(HAT.o _ G5.o).mono ?_
   rintro e w6 ⟨n,tE,N,rfl,g6⟩
   have R6:=η (row_grow R5.o g6)
   have G6:=η (G5.o.trans g6)
   clear g6 R5 G5 HAT
   cases da
   ·go_wp2_with (first|(refine wpList_store_row rfl (.tmp 2) (.tmp 73) rfl rfl rfl R6.o info_pt0 rfl rfl ?_))
    intro w7 r7 g7
    obtain⟨p0,p1,p2⟩:=cells3t r7
    go_wp2
    refine bodyPost_ret (v:=.tuple #[.agg #[.int .i64 0,.int .i64 0,.int .i64 0],.bool false]) (by simp [results,Tryz.results32,go_sem,p0,p1,p2]) rfl ?_
    rw [HN.o]
    exact⟨rfl,G6.o.grown g7 (fun k hk=>by simp at hk;omega)⟩
   ·cases db
    ·go_wp2_with (first|(refine wpList_store_row rfl (.tmp 2) (.tmp 73) rfl rfl rfl R6.o info_pt0 rfl rfl ?_))
     intro w7 r7 g7
     obtain⟨p0,p1,p2⟩:=cells3t r7
     go_wp2
     refine bodyPost_ret (v:=.tuple #[.agg #[.int .i64 0,.int .i64 0,.int .i64 0],.bool false]) (by simp [results,Tryz.results32,go_sem,p0,p1,p2]) rfl ?_
     rw [HN.o]
     exact⟨rfl,G6.o.grown g7 (fun k hk=>by simp at hk;omega)⟩
    ·go_wp2_with (first|(refine wpList_store_row rfl (.tmp 2) (.tmp 73) rfl rfl rfl R6.o info_pt0 rfl rfl ?_))
     intro w7 r7 g7
     obtain⟨p0,p1,p2⟩:=cells3t r7
     go_wp2
     refine bodyPost_ret (v:=.tuple #[.agg #[.int .i64 0,.int .i64 0,.int .i64 0],.bool false]) (by simp [results,Tryz.results32,go_sem,p0,p1,p2]) rfl ?_
     rw [HN.o]
     exact⟨rfl,G6.o.grown g7 (fun k hk=>by simp at hk;omega)⟩
theorem dec_app (l t:List Rc):decidedR (l++t)=decidedR l++decidedR t:=by unfold decidedR;simp
theorem hHear_ext (h:Hd) (m:Ms):∃t,(hHearH h m).log=h.log++t:=by
 unfold hHearH
 cases hearL m h.opn with
 |none=>exact⟨[],by simp⟩
 |some x=>exact⟨x.2.1,rfl⟩
theorem come_ext (w:AW) (m:Ms):∃t,(comeA w m).head.log=w.head.log++t:=by
 unfold comeA
 cases w.houses[m.house.toNat]? with
 |none=>exact⟨[],by simp⟩
 |some h=>
  simp only
  split
  ·exact⟨[],by simp⟩
  ·exact hHear_ext _ _
theorem do_ext (w:AW) (s:St):∃t,(doA w s).head.log=w.head.log++t:=by
 have same:∃t,w.head.log=w.head.log++t:=⟨[],by simp⟩
 unfold doA
 split
 ·split
  ·refine⟨[],?_⟩
   show(beginH w.head s.parts).log=_
   unfold beginH
   split<;>simp
  ·exact same
 split
 ·split
  ·exact come_ext { w with net:=w.net.eraseIdx s.n.toNat } _
  ·exact same
 split
 ·split<;>exact same
 split
 ·split<;>exact same
 split
 ·split
  ·show∃t,(fallH w.head).log=_
   unfold fallH
   split
   ·exact same
   ·exact⟨_,(headR_next _).2⟩
  ·exact same
 split
 ·split
  ·rw [(tick_head w _).1];exact same
  ·exact same
 split
 ·exact same
 ·exact same
theorem play_ext:∀(l:List St) (w:AW),∃t,(playA w l).head.log=w.head.log++t
 | [],w=>⟨[],by simp [playA]⟩
 |s::l,w=>by
  obtain⟨t1,h1⟩:=do_ext w s
  obtain⟨t2,h2⟩:=play_ext l (doA w s)
  exact⟨t1++t2,by show(playA (doA w s) l).head.log=_;rw [h2,h1,List.append_assoc]⟩
theorem settle_ext (f:Nat) (w:AW):∃t,(settleN f w).1.head.log=w.head.log++t:=
 settle_keeps (p:=fun x=>∃t,x.head.log=w.head.log++t) (fun x m l ⟨t,h⟩ _=>by
  obtain⟨u,hu⟩:=come_ext { x with net:=l } m
  exact⟨t++u,by rw [hu];show x.head.log++u=_;rw [h,List.append_assoc]⟩) (fun x k ⟨t,h⟩=>⟨t,by rw [(tick_head x k).1,h]⟩) f ⟨[],by simp⟩
structure FreeG (G:Reg):Prop where
 apart:∀x∈G,∀y∈G,x.1≠y.1→∀k q,has k q x.2=true→has k q y.2=true→False
 pos:∀x∈G,∀k q,0≤amt k q x.2
structure FW (n:Nat) (G:Reg) (w:AW):Prop where
 wi:WI n G w
 net:∀m∈w.net,m.kind≠3
 all:∀x∈G,(∃o∈w.head.opn,o.deed=x.1)∨∃r∈decidedR w.head.log,r.deed=x.1
theorem tot_zero {k q:Int}:∀{D:List Rd},(∀r∈D,amt k q r.parts=0)→tot k q D=0
 | [],_=>rfl
 |r::D,h=>by rw [tot,h r List.mem_cons_self,tot_zero fun x hx=>h x (List.mem_cons_of_mem _ hx)];rfl
theorem free_vote {n:Nat} {G:Reg} {hd:Hd} {hs:List Hs} (f:FreeG G) (c:Core n G hd hs) {k:Int} (h0:0≤k) {h:Hs} (hk:hs[k.toNat]? =some h) {d:Int} {P:List Pt} (hP:(d,P)∈G):
  voteE h d (ofL P k)=10∨voteE h d (ofL P k)=0:=by
 have hi:=c.house' h0 hk
 have hw:wrongE P n=0:=(c.reg.ok _ hP).2
 unfold voteE
 by_cases hd':d∈h.done
 ·left;rw [if_pos hd']
 right
 rw [if_neg hd']
 by_cases hr:readyE h.ready d=true
 ·rw [if_pos hr]
 rw [if_neg hr]
 have hf:freeE h.ready (ofL P k)=true:=by
  rw [free_all,List.all_eq_true]
  intro p hp
  have:p.k∉keysOf h.ready:=by
   intro hq
   unfold keysOf at hq
   obtain⟨r,hr',hq⟩:=List.mem_flatMap.1 hq
   obtain⟨y,hy,hyk⟩:=List.mem_map.1 hq
   obtain⟨Q,hQ,hrp,-⟩:=hi.reg r hr'
   rw [hrp] at hy
   unfold ofL at hy hp
   rw [List.mem_filter] at hy hp
   refine f.apart _ hP _ hQ ?_ k p.k (has_mem.2 ⟨p,hp.1,by simpa using hp.2,rfl⟩) (has_mem.2 ⟨y,hy.1,by simpa using hy.2,hyk⟩)
   intro e
   apply hr
   unfold readyE
   rw [List.any_eq_true]
   exact⟨r,hr',by simp [isD];exact e.symm⟩
  simpa using (who_keys hi.calm.fine.pos).2 this
 rw [if_neg (by rw [hf];simp)]
 refine(fits_sum hw hi.right k).2 fun q a b=>?_
 have hs0:=rightS_get.1 hi.right q a b
 cases hh:has k q P with
 |false=>rw [amt_none hh];omega
 |true=>
  have hz:h.sums.get q=0:=by
   rw [hi.add q a b]
   refine tot_zero fun r hr'=>amt_none ?_
   rw [List.mem_filter] at hr'
   have hrd:r.deed≠d:=fun e=>hd' (by rw [←e];simpa using hr'.2)
   cases hrr:has k q r.parts with
   |false=>rfl
   |true=>exact(f.apart _ hP _ (c.dec.reg r hr'.1) (fun e=>hrd e.symm) k q hh hrr).elim
  have h1:0≤amt k q P:=f.pos _ hP k q
  have h2:-1048576≤amt k q P∧amt k q P≤1048576:=amt_bound hw k q
  omega
theorem asks_kinds (o:Opn):∀x∈asksE o,x.kind≠3:=by
 intro x hx
 unfold asksE at hx
 obtain⟨k,-,rfl⟩:=List.mem_map.1 hx
 unfold commitM
 split<;>simp
theorem hearO_kinds (o:Opn) (m:Ms):∀x∈(hearO o m).2.2,x.kind≠3:=by
 intro x hx
 unfold hearO at hx
 split at hx
 ·split at hx
  ·exact asks_kinds _ x hx
  ·simp at hx
 split at hx
 ·unfold abortsE at hx
  obtain⟨k,-,rfl⟩:=List.mem_map.1 hx
  simp
 split at hx
 ·split at hx
  ·simp at hx
  ·simp at hx
 split at hx
 ·rw [List.mem_singleton.1 hx];simp
 ·simp at hx
theorem hearO_deed (o:Opn) {m:Ms} (h3:m.kind≠3):(∃o'∈(hearO o m).1,o'.deed=o.deed)∨o.dec=true:=by
 unfold hearO
 split
 ·split
  ·exact .inl ⟨_,List.mem_cons_self,rfl⟩
  ·exact .inl ⟨_,List.mem_cons_self,rfl⟩
 split
 ·rename_i h
  exact absurd h.1 h3
 split
 ·rename_i h
  exact .inr h.2.1
 split
 ·exact .inl ⟨_,List.mem_cons_self,rfl⟩
 ·exact .inl ⟨_,List.mem_cons_self,rfl⟩
theorem FW.come {n:Nat} {G:Reg} {w:AW} (f:FreeG G) (i:FW n G w) {m:Ms} (hm:MOk n G w.head w.houses m) (h3:m.kind≠3):FW n G (comeA w m):=by
 have hw:=i.wi.come hm i.wi.len
 refine⟨hw,?_,?_⟩
 ·intro x hx
  unfold comeA at hx
  cases hk:w.houses[m.house.toNat]? with
  |none=>rw [hk] at hx;exact i.net x hx
  |some h=>
   rw [hk] at hx
   simp only at hx
   split at hx
   ·rcases send_mem hx with hx|hx
    ·exact i.net x hx
    ·unfold hearM at hx
     split at hx
     ·rename_i k1
      obtain⟨P,hP,-,hPp⟩:=hm.reg
      have hv:=free_vote f i.wi.core hm.right.house.1 hk hP
      rw [←hPp k1] at hv
      split at hx
      ·simp at hx
      ·split at hx
       ·rw [List.mem_singleton.1 hx];simp
       ·rename_i n1 n2
        rcases hv with hv|hv
        ·exact absurd hv n1
        ·exact absurd hv n2
     ·split at hx
      ·split at hx
       ·rw [List.mem_singleton.1 hx];simp
       ·simp at hx
      ·simp at hx
   ·rcases send_mem hx with hx|hx
    ·exact i.net x hx
    ·unfold hHearM at hx
     cases hL:hearL m w.head.opn with
     |none=>
      rw [hL] at hx
      simp only at hx
      split at hx
      ·rw [List.mem_singleton.1 hx];simp
      ·simp at hx
     |some y=>
      obtain⟨A,o,B,-,-,-,rfl⟩:=hearL_some hL
      rw [hL] at hx
      exact hearO_kinds o m x hx
 ·intro x hx
  obtain⟨t,ht⟩:=come_ext w m
  rw [ht,dec_app]
  rcases i.all x hx with⟨o,ho,hod⟩|⟨r,hr,hrd⟩
  ·unfold comeA
   cases hk:w.houses[m.house.toNat]? with
   |none=>exact .inl ⟨o,ho,hod⟩
   |some h=>
    simp only
    split
    ·exact .inl ⟨o,ho,hod⟩
    ·show(∃o∈(hHearH w.head m).opn,o.deed=x.1)∨_
     unfold hHearH
     cases hL:hearL m w.head.opn with
     |none=>exact .inl ⟨o,ho,hod⟩
     |some y=>
      obtain⟨A,o2,B,e1,-,-,rfl⟩:=hearL_some hL
      simp only
      have hin:o∈A∨o=o2∨o∈B:=by
       rw [e1] at ho
       simpa using ho
      rcases hin with h1|h1|h1
      ·exact .inl ⟨o,by simp [h1],hod⟩
      ·rcases hearO_deed o2 h3 with⟨o',ho',hd'⟩|hd'
       ·exact .inl ⟨o',by simp [ho'],by rw [hd',←h1,hod]⟩
       ·right
        obtain⟨r,hr,hrd⟩:=(i.wi.core.odec o ho).1 (by rw [h1];exact hd')
        exact⟨r,List.mem_append_left _ hr,by rw [hrd,hod]⟩
      ·exact .inl ⟨o,by simp [h1],hod⟩
  ·exact .inr ⟨r,List.mem_append_left _ hr,hrd⟩
theorem FW.drop {n:Nat} {G:Reg} {w:AW} (i:FW n G w) (k:Nat):FW n G { w with net:=w.net.eraseIdx k }:=
 ⟨i.wi.drop k,fun m hm=>i.net m (List.mem_of_mem_eraseIdx hm),i.all⟩
theorem FW.come1 {n:Nat} {G:Reg} {w:AW} (f:FreeG G) (i:FW n G w) {m:Ms} {l:List Ms} (h:w.net=m::l):FW n G (comeA { w with net:=l } m):=by
 have i2:=i.drop 0
 rw [h] at i2
 exact FW.come f (w:={ w with net:=l }) i2 (i.wi.net m (by rw [h];exact List.mem_cons_self)) (i.net m (by rw [h];exact List.mem_cons_self))
theorem FW.tick {n:Nat} {G:Reg} {w:AW} (i:FW n G w) (k:Nat):FW n G (tickA w k):=by
 refine⟨i.wi.tick k,?_,by rw [(tick_head w k).1];exact i.all⟩
 intro x hx
 unfold tickA at hx
 split at hx
 ·rcases send_mem hx with hx|hx
  ·exact i.net x hx
  ·unfold tickE at hx
   obtain⟨o,-,hx⟩:=List.mem_flatMap.1 hx
   exact asks_kinds o x hx
 ·cases hk:w.houses[k]? with
  |none=>rw [hk] at hx;exact i.net x hx
  |some h=>
   rw [hk] at hx
   rcases send_mem hx with hx|hx
   ·exact i.net x hx
   ·unfold hTickE at hx
    obtain⟨r,-,rfl⟩:=List.mem_map.1 hx
    simp
theorem FW.settle {n:Nat} {G:Reg} {w:AW} (f:FreeG G) (i:FW n G w):FW n G (settleA w).1:=
 settle_keeps (p:=FW n G) (fun _ _ _ h e=>h.come1 f e) (fun _ k h=>h.tick k) 30 i
theorem getD_mem {net:List Ms} {k:Int} {w:AW} (e:w.net=net) (h:there w k=true):net.getD k.toNat ⟨0,0,0,[]⟩∈net:=by
 unfold there at h
 rw [decide_eq_true_eq,e] at h
 have hl:k.toNat<net.length:=by omega
 rw [List.getD_eq_getElem?_getD,List.getElem?_eq_getElem hl]
 exact List.getElem_mem _
theorem FW.step {n:Nat} {G:Reg} {w:AW} (f:FreeG G) (i:FW n G w) {s:St} (hs:s.kind=2∨s.kind=4∨s.kind=6∨(s.kind=5∧s.n≠3)):FW n G (doA w s):=by
 unfold doA
 rw [if_neg (by omega)]
 split
 ·split
  ·rename_i ht
   exact FW.come f (w:={ w with net:=w.net.eraseIdx s.n.toNat }) (i.drop _) (i.wi.there ht) (i.net _ (getD_mem rfl ht))
  ·exact i
 rw [if_neg (by omega)]
 split
 ·split
  ·rename_i ht
   refine⟨⟨i.wi.core,fun m hm=>?_,?_⟩,fun m hm=>?_,i.all⟩
   ·rcases List.mem_append.1 hm with hm|hm
    ·exact i.wi.net m hm
    ·rw [List.mem_singleton.1 hm];exact i.wi.there ht.1
   ·rw [List.length_append];have:=ht.2;simp;omega
   ·rcases List.mem_append.1 hm with hm|hm
    ·exact i.net m hm
    ·rw [List.mem_singleton.1 hm];exact i.net _ (getD_mem rfl ht.1)
  ·exact i
 split
 ·rw [if_neg (by omega)];exact i
 rw [if_pos (by omega)]
 split
 ·exact i.tick _
 ·exact i
theorem FW.steps {n:Nat} {G:Reg} (f:FreeG G):∀(l:List St) {w:AW},FW n G w→(∀s∈l,s.kind=2∨s.kind=4∨s.kind=6∨(s.kind=5∧s.n≠3))→FW n G (playA w l)
 | [],_,i,_=>i
 |s::l,_,i,h=>FW.steps f l (i.step f (h s List.mem_cons_self)) fun t ht=>h t (List.mem_cons_of_mem _ ht)
theorem FW.begin {n:Nat} {G:Reg} {w:AW} (i:FW n G w) {P:List Pt} (hw:wrongE P n=0) (hf:fullE w.head=false):
  ∃d,FW n ((d,P)::G) (doA w ⟨1,0,P⟩)∧(doA w ⟨1,0,P⟩).head.opn.length=w.head.opn.length+1∧(doA w ⟨1,0,P⟩).head.next=w.head.next+1:=by
 obtain⟨c,h1,h2⟩:=i.wi.core.begin hw hf
 have e:doA w ⟨1,0,P⟩={ w with head:=beginH w.head P,net:=sendA w.net (beginM w.head P) }:=by
  unfold doA
  rw [if_pos rfl,if_pos (by rw [i.wi.core.len];exact hw)]
 have eb:beginH w.head P={ w.head with opn:=w.head.opn++ [newO w.head P],next:=w.head.next+1 }:=by unfold beginH;rw [hf];rfl
 have em:beginM w.head P=asksE (newO w.head P):=by unfold beginM;rw [hf];rfl
 rw [e]
 refine⟨_,⟨WI.mk' c (fun x hx=>h1 x (i.wi.net x hx)) h2 i.wi.len,fun x hx=>?_,fun x hx=>?_⟩,by rw [eb];simp,by rw [eb]⟩
 ·rcases send_mem hx with hx|hx
  ·exact i.net x hx
  ·rw [em] at hx
   exact asks_kinds _ x hx
 ·show(∃o∈(beginH w.head P).opn,o.deed=x.1)∨∃r∈decidedR (beginH w.head P).log,r.deed=x.1
  rw [eb]
  rcases List.mem_cons.1 hx with rfl|hx
  ·exact .inl ⟨newO w.head P,by simp,rfl⟩
  ·rcases i.all x hx with⟨o,ho,hod⟩|hr
   ·exact .inl ⟨o,by simp [ho],hod⟩
   ·exact .inr hr
theorem FW.begins {n:Nat}:∀(ps:List (List Pt)) {G:Reg} {w:AW},FW n G w→(∀P∈ps,wrongE P n=0)→w.head.opn.length+ps.length≤12→w.head.next+ps.length≤64→
  ∃G',FW n G' (playA w (ps.map fun P=>⟨1,0,P⟩))∧G'.map (·.2)=ps.reverse++G.map (·.2)
 | [],G,w,i,_,_,_=>⟨G,i,by simp⟩
 |P::ps,G,w,i,h,h1,h2=>by
  simp only [List.length_cons] at h1 h2
  obtain⟨d,i2,a,b⟩:=i.begin (h P List.mem_cons_self) (by unfold fullE;rw [decide_eq_false_iff_not];omega)
  obtain⟨G',i3,e⟩:=FW.begins ps i2 (fun Q hQ=>h Q (List.mem_cons_of_mem _ hQ)) (by omega) (by rw [b];push_cast at h2;omega)
  exact⟨G',i3,by rw [e];simp⟩
theorem amt_mem:∀{P:List Pt},(P.map fun p=>(p.h,p.k)).Nodup→∀p∈P,amt p.h p.k P=p.n
 | [],_,p,h=>by simp at h
 |x::P,hn,p,h=>by
  rw [List.map_cons,List.nodup_cons] at hn
  unfold amt
  rcases List.mem_cons.1 h with rfl|h
  ·rw [List.find?_cons_of_pos (by simp [atK])]
  ·have hne:¬atK p.h p.k x=true:=by
    intro e
    simp only [atK,Bool.and_eq_true,beq_iff_eq] at e
    exact hn.1 (List.mem_map.2 ⟨p,h,by rw [e.1,e.2]⟩)
   rw [List.find?_cons_of_neg hne]
   exact amt_mem hn.2 p h
theorem tot_one {k q:Int} {r:Rd}:∀{D:List Rd},(D.map (·.deed)).Nodup→r∈D→(∀x∈D,x.deed≠r.deed→amt k q x.parts=0)→tot k q D=amt k q r.parts
 | [],_,h,_=>by simp at h
 |x::D,hn,h,hz=>by
  rw [List.map_cons,List.nodup_cons] at hn
  rw [tot]
  rcases List.mem_cons.1 h with rfl|h
  ·rw [tot_zero fun y hy=>hz y (List.mem_cons_of_mem _ hy) fun e=>hn.1 (List.mem_map.2 ⟨y,hy,e⟩)];omega
  ·rw [tot_one hn.2 h fun y hy=>hz y (List.mem_cons_of_mem _ hy),hz x List.mem_cons_self fun e=>hn.1 (List.mem_map.2 ⟨r,h,e.symm⟩)];omega
theorem FW.final {n:Nat} {G:Reg} {w:AW} (f:FreeG G) (i:FW n G w) (q:Quiet w) {x:Int×List Pt} (hx:x∈G) {p:Pt} (hp:p∈x.2):∃h,w.houses[p.h.toNat]? =some h∧h.sums.get p.k=p.n:=by
 have c:=i.wi.core
 have hw:=(c.reg.ok x hx).2
 obtain⟨-,-,hb,hn⟩:=wrong_ok hw
 have hpb:=hb p hp
 rcases i.all x hx with⟨o,ho,-⟩|⟨r,hr,hrd⟩
 ·rw [q.opn] at ho;simp at ho
 have hrg:=c.dec.reg r hr
 rw [hrd] at hrg
 have hpp:=reg_same c.reg.nd hrg (Q:=x.2) hx
 have hh:has p.h p.k x.2=true:=has_mem.2 ⟨p,hp,rfl,rfl⟩
 have hin:=(has_houses hw c.n3' hh).1
 obtain⟨h,hg,hdn⟩:=c.settled q.opn r hr p.h (by rw [hpp];exact hin)
 refine⟨h,hg,?_⟩
 have hi:=c.house' hpb.1 hg
 rw [hi.add p.k hpb.2.2.1 hpb.2.2.2.1,←amt_mem hn p hp,←hpp]
 refine tot_one (c.dec.nd.sublist ((List.filter_sublist).map _)) (List.mem_filter.2 ⟨hr,by simp [hdn]⟩) fun y hy hyd=>?_
 have hyD:=(List.mem_filter.1 hy).1
 cases hyy:has p.h p.k y.parts with
 |false=>exact amt_none hyy
 |true=>exact(f.apart _ (c.dec.reg y hyD) _ hx (by show y.deed≠x.1;rw [←hrd];exact hyd) _ _ hyy hh).elim
theorem Core.sum_all {n:Nat} {G:Reg} {hd:Hd} {hs:List Hs} (c:Core n G hd hs) (hall:∀r∈decidedR hd.log,∀k∈housesE r.parts,dne hs k r.deed) {k:Nat} {h:Hs} (hk:hs[k]? =some h) {q:Int} (a:0≤q) (b:q<4):
  h.sums.get q=tot k q (decidedR hd.log):=by
 rw [(c.house k _ hk).add q a b]
 refine tot_filter fun r hr hp=>?_
 cases hh2:has k q r.parts with
 |false=>exact amt_none hh2
 |true=>
  have hw:wrongE r.parts n=0:=(c.reg.ok _ (c.dec.reg r hr)).2
  obtain⟨x,hx,hd'⟩:=hall r hr k (has_houses hw c.n3' hh2).1
  rw [show((k:Int)).toNat=k from rfl,hk] at hx
  obtain rfl:=Option.some.inj hx
  simp [hd'] at hp
theorem tot_same {k q k' q':Int}:∀{D:List Rd},(∀r∈D,amt k q r.parts=amt k' q' r.parts)→tot k q D=tot k' q' D
 | [],_=>rfl
 |r::D,h=>by rw [tot,tot,h r List.mem_cons_self,tot_same fun x hx=>h x (List.mem_cons_of_mem _ hx)]
theorem both_law {n:Nat} {G:Reg} {w:AW} (i:WI n G w) (q:Quiet w) {k q1 k' q2:Nat} (h1:q1<4) (h2:q2<4) (hG:∀x∈G,amt k q1 x.2=amt k' q2 x.2) {h h':Hs} (hk:w.houses[k]? =some h) (hk':w.houses[k']? =some h'):h.sums.get q1=h'.sums.get q2:=by
 have hall:=i.core.settled q.opn
 rw [i.core.sum_all hall hk (by omega) (by omega),i.core.sum_all hall hk' (by omega) (by omega)]
 exact tot_same fun r hr=>hG _ (i.core.dec.reg r hr)
def dsum:List Rd→Int
 | []=>0
 |r::D=>psum r.parts+dsum D
theorem S12_tot:∀{D:List Rd},(∀r∈D,S12 (fun k q=>amt k q r.parts)=psum r.parts)→S12 (fun k q=>tot k q D)=dsum D
 | [],_=>rfl
 |r::D,h=>by
  have ih:=S12_tot fun x hx=>h x (List.mem_cons_of_mem r hx)
  have h0:=h r List.mem_cons_self
  simp only [S12] at ih h0 ⊢
  simp only [tot,dsum]
  omega
def hsSum:List Hs→Int
 | []=>0
 |h::l=>smSum h.sums+hsSum l
theorem total_law {G:Reg} {w:AW} (i:WI 3 G w) (q:Quiet w):hsSum w.houses=dsum (decidedR w.head.log):=by
 have hall:=i.core.settled q.opn
 have hl:=i.core.len
 rw [←S12_tot (D:=decidedR w.head.log) fun r hr=>by
  obtain⟨-,-,hb,hn⟩:=wrong_ok (i.core.reg.ok _ (i.core.dec.reg r hr)).2
  exact S12_amt hn fun p hp=>by have:=hb p hp;omega]
 have hsum:∀(k:Nat) h,w.houses[k]? =some h→∀q:Int,0≤q→q<4→h.sums.get q=tot k q (decidedR w.head.log):=fun k h hk q a b=>i.core.sum_all hall hk a b
 generalize w.houses=hs at*
 match hs,hl with
 | [h0,h1,h2],_=>
  have a:=fun q a b=>hsum 0 h0 rfl q a b
  have b:=fun q a b=>hsum 1 h1 rfl q a b
  have c:=fun q a b=>hsum 2 h2 rfl q a b
  have a0:=a 0 (by omega) (by omega)
  have a1:=a 1 (by omega) (by omega)
  have a2:=a 2 (by omega) (by omega)
  have a3:=a 3 (by omega) (by omega)
  have b0:=b 0 (by omega) (by omega)
  have b1:=b 1 (by omega) (by omega)
  have b2:=b 2 (by omega) (by omega)
  have b3:=b 3 (by omega) (by omega)
  have c0:=c 0 (by omega) (by omega)
  have c1:=c 1 (by omega) (by omega)
  have c2:=c 2 (by omega) (by omega)
  have c3:=c 3 (by omega) (by omega)
  have g:∀s:Sm,s.get 0=s.a∧s.get 1=s.b∧s.get 2=s.c∧s.get 3=s.d:=fun s=>⟨rfl,rfl,rfl,rfl⟩
  have g0:=g h0.sums
  have g1:=g h1.sums
  have g2:=g h2.sums
  simp only [S12,hsSum,smSum]
  push_cast at*
  omega
def P0:List Pt:=[⟨0,0,100⟩,⟨1,0,100⟩,⟨2,0,100⟩]
def firstA:List St:=⟨1,0,P0⟩::List.replicate 12 ⟨2,0,[]⟩
theorem first_dec:decidedR (playA (newA 3) firstA).head.log=[⟨64,P0⟩]:=by kernel_rfl
theorem WI.same {n:Nat} {G:Reg}:∀{l:List St} {w:AW},WI n G w→(∀s∈l,s.kind≠1)→WI n G (playA w l)
 | [],_,i,_=>i
 |s::l,_,i,h=>by
  obtain⟨G',i',rfl|⟨h1,-⟩⟩:=i.step' s
  ·exact WI.same (l:=l) i' fun t ht=>h t (List.mem_cons_of_mem _ ht)
  ·exact absurd h1 (h s List.mem_cons_self)
theorem first_wi:WI 3 [(64,P0)] (playA (newA 3) firstA):=by
 obtain⟨G,i,hG⟩:=(WI.zero (n:=3) (by omega)).step' ⟨1,0,P0⟩
 have e:playA (newA 3) firstA=playA (doA (newA 3) ⟨1,0,P0⟩) (List.replicate 12 ⟨2,0,[]⟩):=by unfold firstA playA;rw [List.foldl_cons]
 have i2:WI 3 G (playA (newA 3) firstA):=by
  rw [e]
  exact WI.same (l:=List.replicate 12 ⟨2,0,[]⟩) i fun s hs=>by
   rw [(List.mem_replicate.1 hs).2];simp
 have hr:=i2.core.dec.reg ⟨64,P0⟩ (by rw [first_dec];simp)
 rcases hG with rfl|⟨-,d,rfl⟩
 ·simp at hr
 ·simp at hr
  rw [hr]
  exact i2
theorem playA_app (w:AW) (a b:List St):playA w (a++b)=playA (playA w a) b:=by unfold playA;rw [List.foldl_append]
theorem dsum_zero:∀{D:List Rd},(∀r∈D,psum r.parts=0)→dsum D=0
 | [],_=>rfl
 |r::D,h=>by rw [dsum,h r List.mem_cons_self,dsum_zero fun x hx=>h x (List.mem_cons_of_mem _ hx)];rfl
theorem pay_law {rest:List St} (hrest:∀s∈rest,s.kind=1→psum s.parts=0):∃G,WI 3 G (settleA (playA (newA 3) (firstA++rest))).1∧Quiet (settleA (playA (newA 3) (firstA++rest))).1∧hsSum (settleA (playA (newA 3) (firstA++rest))).1.houses=300:=by
 obtain⟨G,i,h1,h2⟩:=WI.play rest first_wi
 rw [←playA_app] at i
 obtain⟨q,i2,-⟩:=i.settle
 refine⟨G,i2,q,?_⟩
 rw [total_law i2 q]
 obtain⟨t1,e1⟩:=play_ext rest (playA (newA 3) firstA)
 obtain⟨t2,e2⟩:=settle_ext 30 (playA (newA 3) (firstA++rest))
 have e:decidedR (settleA (playA (newA 3) (firstA++rest))).1.head.log=⟨64,P0⟩::(decidedR t1++decidedR t2):=by
  show decidedR (settleN 30 (playA (newA 3) (firstA++rest))).1.head.log=_
  rw [e2,playA_app,e1,dec_app,dec_app,first_dec];simp
 have hn:=i2.core.dec.nd
 have hreg:=i2.core.dec.reg
 rw [e] at hn hreg ⊢
 rw [List.map_cons,List.nodup_cons] at hn
 rw [dsum,dsum_zero fun r hr=>?_]
 ·rfl
 ·rcases h2 _ (hreg r (List.mem_cons_of_mem _ hr)) with hx|⟨s,hs,hk,hp⟩
  ·simp at hx
   exact absurd (List.mem_map.2 ⟨r,hr,hx.1⟩) hn.1
  ·simp only at hp
   rw [hp]
   exact hrest s hs hk
end Go.Proofs.YthfgeelcbcgahaaGreatDoor
