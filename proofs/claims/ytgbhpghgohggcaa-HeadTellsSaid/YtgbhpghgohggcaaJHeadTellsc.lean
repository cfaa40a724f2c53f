/- The parts that HeadTells is proved of, joined: Q6, Q7, U0, Q8, Q9, Q10, U1, U2, U3, U4, U5, U6, M8, M9, U7, U8, G1, Z4, G2, Reg3, U9, U21, G3, G4, U10, U11. No condition beside those that each theorem names. -/
import Derived.Deep.DeepCutAuto
import Derived.Test.YtgbhpghgohggcaaJHeadTellsb
namespace Go.Proofs.Ytgbhpghgohggcaa
open Go.RowKit
variable {n:Nat} {G:Reg} {hd:Hd} {hs:List Hs}
theorem Core.deed (c:Core n G hd hs) {d:Int} {P:List Pt} (h:(d,P) ∈ G):0 ≤ d∧d ≤ 1343:=by
 have h1:=(c.reg.ok _ h).1
 have h2:=c.old _ h
 have h3:=c.boot
 have h4:=c.next
 simp only at h1 h2
 omega
theorem Core.n3' (c:Core n G hd hs):(n:Int) ≤ 3:=by have:=c.n3;omega
theorem Core.plain (c:Core n G hd hs) {d:Int} {P:List Pt} (h:(d,P) ∈ G) {k:Int} (hk:k ∈ housesE P) {kd:Int} (h1:1 < kd) (h7:kd ≤ 7):RightM ⟨kd,d,k,[]⟩:=by
 have hd':=c.deed h
 have hk3:=houses_lt (c.reg.ok _ h).2 hk
 have:=c.n3'
 exact ⟨⟨by show 1 ≤ kd;omega,h7⟩,hd',⟨hk3.1,by show k ≤ 2;omega⟩,fun _=>rfl,fun e=>absurd (show kd = 1 from e) (by omega)⟩
theorem Core.here (c:Core n G hd hs) {d:Int} {P:List Pt} (h:(d,P) ∈ G) {k:Int} (hk:k ∈ housesE P):k < n:=(houses_lt (c.reg.ok _ h).2 hk).2
theorem asks_ok (c:Core n G hd hs) {o:Opn} (ho:o ∈ hd.opn):∀ x ∈ asksE o,MOk n G hd hs x:=by
 intro x hx
 unfold asksE at hx
 obtain ⟨k,hk,rfl⟩:=List.mem_map.1 hx
 have hk:=(List.mem_filter.1 hk).1
 have hG:=c.oreg o ho
 have hw:wrongE o.parts n = 0:=(c.reg.ok _ hG).2
 unfold commitM
 split
 ·rename_i hdec
  exact ⟨c.plain hG hk (by omega) (by omega),c.here hG hk,⟨o.parts,hG,hk,(fun e=>by cases e)⟩,(fun e=>by cases e),fun _=>(c.odec o ho).1 hdec,(fun e=>by cases e),(fun e=>by cases e)⟩
 ·have hne:=(houses_mem.1 hk).2
  have hp:=wrong_ofL hw c.n3' hne
  have hd':=c.deed hG
  have hk3:=houses_lt hw hk
  have hn:=c.n3'
  exact ⟨⟨⟨by show (1:Int) ≤ 1;omega,by show (1:Int) ≤ 7;omega⟩,hd',⟨hk3.1,by show k ≤ 2;omega⟩,fun e=>absurd rfl e,fun _=>hp⟩,c.here hG hk,⟨o.parts,hG,hk,fun _=>rfl⟩,(fun e=>by cases e),(fun e=>by cases e),(fun e=>by cases e),(fun e=>by cases e)⟩
theorem aborts_ok (c:Core n G hd hs) {d:Int} {P:List Pt} (hG:(d,P) ∈ G) (h1:∀ r ∈ decidedR hd.log,r.deed ≠ d) (h2:∀ o ∈ hd.opn,o.deed ≠ d):∀ x ∈ abortsE d P,MOk n G hd hs x:=by
 intro x hx
 unfold abortsE at hx
 obtain ⟨k,hk,rfl⟩:=List.mem_map.1 hx
 exact ⟨c.plain hG hk (by omega) (by omega),c.here hG hk,⟨P,hG,hk,(fun e=>by cases e)⟩,(fun e=>by cases e),(fun e=>by cases e),fun _=>.inl ⟨h1,h2⟩,(fun e=>by cases e)⟩
theorem Core.begin (c:Core n G hd hs) {P:List Pt} (hw:wrongE P n = 0) (hf:fullE hd = false) :
  Core n ((64 * hd.boot + hd.next,P) :: G) (beginH hd P) hs∧(∀ m,MOk n G hd hs m→MOk n ((64 * hd.boot + hd.next,P) :: G) (beginH hd P) hs m)∧∀ m ∈ beginM hd P,MOk n ((64 * hd.boot + hd.next,P) :: G) (beginH hd P) hs m:=by
 have hfull:hd.opn.length ≤ 11∧hd.next ≤ 63:=by
  unfold fullE at hf
  rw [decide_eq_false_iff_not] at hf
  omega
 have e:beginH hd P = { hd with opn:=hd.opn ++ [newO hd P],next:=hd.next + 1 }:=by unfold beginH;rw [if_neg (by rw [hf];simp)]
 have hb:=c.boot
 have hn:=c.next
 have hnew:∀ x ∈ G,x.1 ≠ 64 * hd.boot + hd.next:=fun x hx he=>by have:=c.old x hx;omega
 have hD:∀ r ∈ decidedR hd.log,r.deed ≠ 64 * hd.boot + hd.next:=fun r hr=>hnew _ (c.dec.reg r hr)
 have hO:∀ o ∈ hd.opn,o.deed ≠ 64 * hd.boot + hd.next:=fun o ho=>hnew _ (c.oreg o ho)
 have hin:∀ o,o ∈ hd.opn ++ [newO hd P]→o ∈ hd.opn ∨ o = newO hd P:=fun o ho=>by simpa using ho
 have hlog:(beginH hd P).log = hd.log:=by rw [e]
 have hc:Core n ((64 * hd.boot + hd.next,P) :: G) (beginH hd P) hs:=by
  rw [e]
  exact {
   len:=c.len,n3:=c.n3,lboot:=c.lboot,lnd:=c.lnd,ldec:=c.ldec,boot:=c.boot
   reg:=⟨by
    rw [List.map_cons,List.nodup_cons]
    exact ⟨fun h=>by obtain ⟨x,hx,he⟩:=List.mem_map.1 h;exact hnew x hx he,c.reg.nd⟩,fun x hx=>by
    rcases List.mem_cons.1 hx with rfl | hx
    ·exact ⟨by show 0 ≤ 64 * hd.boot + hd.next;omega,hw⟩
    ·exact c.reg.ok x hx⟩
   old:=fun x hx=>by
    rcases List.mem_cons.1 hx with rfl | hx
    ·show 64 * hd.boot + hd.next < 64 * hd.boot + (hd.next + 1);omega
    ·have:=c.old x hx
     show x.1 < 64 * hd.boot + (hd.next + 1);omega
   next:=⟨by show 0 ≤ hd.next + 1;omega,by show hd.next + 1 ≤ 64;omega⟩
   lopn:=fun d Q=>by
    rw [c.lopn d Q]
    constructor
    ·rintro ⟨o,ho,h⟩;exact ⟨o,List.mem_append_left _ ho,h⟩
    ·rintro ⟨o,ho,h1,h2,h3⟩
     rcases hin o ho with ho | rfl
     ·exact ⟨o,ho,h1,h2,h3⟩
     ·cases h3
   ond:=by
    rw [List.map_append,List.nodup_append]
    refine ⟨c.ond,by simp,fun a ha b hb' he=>?_⟩
    obtain ⟨o,ho,rfl⟩:=List.mem_map.1 ha
    simp only [List.map_cons,List.map_nil,List.mem_singleton] at hb'
    exact hO o ho (he.trans hb')
   oreg:=fun o ho=>by
    rcases hin o ho with ho | rfl
    ·exact List.mem_cons_of_mem _ (c.oreg o ho)
    ·exact List.mem_cons_self
   olen:=by rw [List.length_append];simp;omega
   odec:=fun o ho=>by
    rcases hin o ho with ho | rfl
    ·exact c.odec o ho
    ·constructor
     ·intro h;cases h
     ·rintro ⟨r,hr,he⟩;exact absurd he (hD r hr)
   onew:=fun o ho=>by
    rcases hin o ho with ho | rfl
    ·exact c.onew o ho
    ·exact ⟨List.nodup_nil,(fun k hk=>by cases hk),houses_some hw c.n3'⟩
   ordy:=fun o ho hd' k hk=>by
    rcases hin o ho with ho | rfl
    ·exact c.ordy o ho hd' k hk
    ·cases hk
   odne:=fun o ho hd' k hk=>by
    rcases hin o ho with ho | rfl
    ·exact c.odne o ho hd' k hk
    ·cases hk
   dec:=⟨fun r hr=>List.mem_cons_of_mem _ (c.dec.reg r hr),c.dec.nd⟩
   held:=c.held
   ends:=fun r hr hno=>c.ends r hr fun o ho=>hno o (List.mem_append_left _ ho)
   house:=fun k h hk=>(c.house k h hk).more fun x hx=>List.mem_cons_of_mem _ hx
   ord:=c.ord
   pre:=c.pre }
 refine ⟨hc,fun m hm=>?_,?_⟩
 ·have hmd:m.deed ≠ 64 * hd.boot + hd.next:=by
   obtain ⟨Q,hQ,-⟩:=hm.reg
   exact hnew _ hQ
  refine hm.head (fun x hx=>List.mem_cons_of_mem _ hx) (fun r hr=>by rw [hlog];exact hr) (fun o' ho' hoc hod=>?_) fun h1 h2=>⟨by rw [hlog];exact h1,fun o ho=>?_⟩
  ·rw [e] at ho'
   rcases hin o' ho' with ho' | rfl
   ·exact ⟨o',ho',rfl,hoc⟩
   ·exact absurd hod.symm hmd
  ·rw [e] at ho
   rcases hin o ho with ho | rfl
   ·exact h2 o ho
   ·exact fun h=>hmd h.symm
 ·unfold beginM
  rw [if_neg (by rw [hf];simp)]
  exact asks_ok hc (by rw [e];simp)
theorem Core.fall (c:Core n G hd hs) (hb:¬ 19 < hd.boot):Core n G (fallH hd) hs∧∀ m,MOk n G hd hs m→MOk n G (fallH hd) hs m:=by
 have hb2:=c.boot
 have hn:=c.next
 have e:fallH hd = { log:=hd.log ++ [⟨4,0,[]⟩],boot:=wrap64 ((headR hd.log).boot + 1),next:=0,opn:=(headR hd.log).opn }:=by
  unfold fallH
  rw [if_neg hb,head_snoc]
  have:=headR_next hd.log
  unfold headStep
  simp [this.1]
 have hw:wrap64 ((headR hd.log).boot + 1) = hd.boot + 1:=by rw [c.lboot];unfold wrap64;omega
 rw [hw] at e
 have hD:decidedR (hd.log ++ [⟨4,0,[]⟩]) = decidedR hd.log:=by rw [dec_snoc];rfl
 have hL:(headR (hd.log ++ [⟨4,0,[]⟩])).opn = (headR hd.log).opn:=by rw [head_snoc];rfl
 have hB:(headR (hd.log ++ [⟨4,0,[]⟩])).boot = hd.boot + 1:=by rw [head_snoc,← hw];rfl
 have back:∀ o ∈ (headR hd.log).opn,∃ o' ∈ hd.opn,o'.deed = o.deed∧o'.parts = o.parts∧o'.dec = true:=fun o ho=>(c.lopn o.deed o.parts).1 ⟨o,ho,rfl,rfl⟩
 have hc:Core n G (fallH hd) hs:=by
  rw [e]
  exact {
   len:=c.len,n3:=c.n3,reg:=c.reg
   old:=fun x hx=>by have:=c.old x hx;show x.1 < 64 * (hd.boot + 1) + 0;omega
   boot:=⟨by show 1 ≤ hd.boot + 1;omega,by show hd.boot + 1 ≤ 20;omega⟩
   next:=⟨Int.le_refl _,by show (0:Int) ≤ 64;omega⟩
   lboot:=hB
   lopn:=fun d P=>by
    show (∃ o ∈ (headR (hd.log ++ _)).opn,_) ↔ ∃ o ∈ (headR hd.log).opn,_
    rw [hL]
    constructor
    ·rintro ⟨o,ho,h1,h2⟩;exact ⟨o,ho,h1,h2,(c.ldec o ho).1⟩
    ·rintro ⟨o,ho,h1,h2,-⟩;exact ⟨o,ho,h1,h2⟩
   lnd:=by show ((headR (hd.log ++ _)).opn.map _).Nodup;rw [hL];exact c.lnd
   ldec:=fun o ho=>by
    have ho:o ∈ (headR (hd.log ++ [⟨4,0,[]⟩])).opn:=ho
    rw [hL] at ho
    exact c.ldec o ho
   ond:=c.lnd
   oreg:=fun o ho=>by
    obtain ⟨o',h1,h2,h3,-⟩:=back o ho
    rw [← h2,← h3];exact c.oreg o' h1
   olen:=by
    have h1:((headR hd.log).opn.map (·.deed)).length ≤ (hd.opn.map (·.deed)).length:=len_le c.lnd fun d hd'=>by
     obtain ⟨o,ho,rfl⟩:=List.mem_map.1 hd'
     obtain ⟨o',h1,h2,-⟩:=back o ho
     exact List.mem_map.2 ⟨o',h1,h2⟩
    simp only [List.length_map] at h1
    exact Nat.le_trans h1 c.olen
   odec:=fun o ho=>by
    show o.dec = true ↔ ∃ r ∈ decidedR (hd.log ++ _),_
    rw [hD]
    obtain ⟨o',h1,h2,-,h4⟩:=back o ho
    rw [← h2]
    exact ⟨fun _=>(c.odec o' h1).1 h4,fun _=>(c.ldec o ho).1⟩
   onew:=fun o ho=>by
    obtain ⟨o',h1,h2,h3,-⟩:=back o ho
    rw [(c.ldec o ho).2,← h3]
    exact ⟨List.nodup_nil,(fun k hk=>by cases hk),houses_some (c.reg.ok _ (c.oreg o' h1)).2 c.n3'⟩
   ordy:=fun o ho hd'=>by rw [(c.ldec o ho).1] at hd';cases hd'
   odne:=fun o ho _ k hk=>by rw [(c.ldec o ho).2] at hk;cases hk
   dec:=by show DecOk G (decidedR (hd.log ++ _));rw [hD];exact c.dec
   held:=by show ∀ r ∈ decidedR (hd.log ++ _),_;rw [hD];exact c.held
   ends:=fun r hr hno=>by
    have hr:r ∈ decidedR (hd.log ++ [⟨4,0,[]⟩]):=hr
    rw [hD] at hr
    refine c.ends r hr fun o ho he=>?_
    have h1:=(c.odec o ho).2 ⟨r,hr,he.symm⟩
    obtain ⟨o2,h2,h3,-⟩:=(c.lopn o.deed o.parts).2 ⟨o,ho,rfl,rfl,h1⟩
    exact hno o2 h2 (h3.trans he)
   house:=by show ∀ (k:Nat) h,_→HI G (decidedR (hd.log ++ _)) k h;rw [hD];exact c.house
   ord:=by show (decidedR (hd.log ++ _)).Pairwise _;rw [hD];exact c.ord
   pre:=by show ∀ A B,decidedR (hd.log ++ _) = A ++ B→_;rw [hD];exact c.pre }
 refine ⟨hc,fun m hm=>?_⟩
 have hlog:(fallH hd).log = hd.log ++ [⟨4,0,[]⟩]:=by rw [e]
 have hopn:(fallH hd).opn = (headR hd.log).opn:=by rw [e]
 refine hm.head (fun _ h=>h) (fun r hr=>by rw [hlog,hD];exact hr) (fun o' ho' hoc _=>?_) fun h1 h2=>⟨by rw [hlog,hD];exact h1,fun o ho=>?_⟩
 ·rw [hopn] at ho'
  rw [(c.ldec o' ho').1] at hoc;cases hoc
 ·rw [hopn] at ho
  obtain ⟨o',h3,h4,-⟩:=back o ho
  rw [← h4];exact h2 o' h3
theorem Core.quit (c:Core n G hd hs):Core n G (quitH hd) hs∧(∀ m,MOk n G hd hs m→MOk n G (quitH hd) hs m)∧∀ m ∈ quitM hd,MOk n G (quitH hd) hs m:=by
 have hs':(hd.opn.filter fun o=>o.dec).Sublist hd.opn:=List.filter_sublist
 have hc:Core n G (quitH hd) hs:=c.drop hs' fun o ho hn=>by
  cases hd':o.dec with
  | false=>rfl
  | true=>exact absurd (List.mem_filter.2 ⟨ho,hd'⟩) hn
 refine ⟨hc,fun m hm=>hm.drop hs',fun m hm=>?_⟩
 unfold quitM at hm
 obtain ⟨o,ho,hm⟩:=List.mem_flatMap.1 hm
 obtain ⟨h1,h2⟩:=List.mem_filter.1 ho
 have hu:o.dec = false:=by simpa using h2
 refine aborts_ok hc (c.oreg o h1) (fun r hr he=>?_) (fun o' ho' he=>?_) m hm
 ·have:=(c.odec o h1).2 ⟨r,hr,he⟩
  rw [hu] at this;cases this
 ·obtain ⟨h3,h4⟩:=List.mem_filter.1 ho'
  have h5:=(c.odec o' h3).1 h4
  rw [he] at h5
  have:=(c.odec o h1).2 h5
  rw [hu] at this;cases this
theorem Core.hHear (c:Core n G hd hs) {m:Ms} (hm:MOk n G hd hs m):Core n G (hHearH hd m) hs∧(∀ x,MOk n G hd hs x→MOk n G (hHearH hd m) hs x)∧∀ x ∈ hHearM hd m,MOk n G (hHearH hd m) hs x:=by
 obtain ⟨P,hP,hk,-⟩:=hm.reg
 unfold hHearH hHearM
 cases hl:hearL m hd.opn with
 | none=>
  refine ⟨c,fun _ h=>h,fun x hx=>?_⟩
  simp only at hx
  split at hx
  ·obtain rfl:=List.mem_singleton.1 hx
   refine ⟨c.plain hP hk (by omega) (by omega),c.here hP hk,⟨P,hP,hk,(fun e=>by cases e)⟩,(fun e=>by cases e),(fun e=>by cases e),fun _=>?_,(fun e=>by cases e)⟩
   have hno:=hearL_none hl
   by_cases hD:∃ r ∈ decidedR hd.log,r.deed = m.deed
   ·obtain ⟨r,hr,he⟩:=hD
    right
    have h1:=c.dec.reg r hr
    rw [he] at h1
    have h2:=c.ends r hr (fun o ho=>by rw [he];exact hno o ho) m.house (by rw [reg_same c.reg.nd h1 hP];exact hk)
    rw [he] at h2
    exact h2
   ·exact .inl ⟨fun r hr he=>hD ⟨r,hr,he⟩,hno⟩
  ·simp at hx
 | some y=>
  obtain ⟨A,o,B,e,hA,hod,rfl⟩:=hearL_some hl
  simp only
  have ho:o ∈ hd.opn:=by rw [e];simp
  have hoG:=c.oreg o ho
  rw [hod] at hoG
  obtain rfl:=reg_same c.reg.nd hP hoG
  have hw:wrongE o.parts n = 0:=(c.reg.ok _ hoG).2
  have hnew:=c.onew o ho
  have hlast:o.heard.length + 1 = (housesE o.parts).length→m.house ∉ o.heard→∀ k ∈ housesE o.parts,k ∈ o.heard ++ [m.house]:=fun hl hn=>by
   refine all_in ?_ ?_ (by simp;omega)
   ·rw [List.nodup_append]
    refine ⟨hnew.1,by simp,fun a ha b hb he=>?_⟩
    rw [he,List.mem_singleton.1 hb] at ha
    exact hn ha
   ·intro k hk'
    rcases List.mem_append.1 hk' with hk' | hk'
    ·exact hnew.2.1 k hk'
    ·rw [List.mem_singleton.1 hk'];exact hk
  have hsame:({ hd with opn:=A ++ [o] ++ B,log:=hd.log ++ [] }:Hd) = hd:=by
   cases hd
   simp only at e ⊢
   simp [e]
  unfold hearO
  split
  ·rename_i h2
   obtain ⟨k2,hu,hin,hn⟩:=h2
   have hr:rdy hs m.house o.deed:=by rw [hod];exact hm.yes k2 o ho hod hu
   split
   ·rename_i hl1
    have hall:∀ k ∈ housesE o.parts,rdy hs k o.deed:=fun k hk'=>by
     rcases List.mem_append.1 (hlast hl1 hn k hk') with h | h
     ·exact c.ordy o ho hu k h
     ·rw [List.mem_singleton.1 h];exact hr
    have hc:=c.commit e hu hall
    exact ⟨hc,fun x hx=>hx.commit' c e,asks_ok hc (by simp)⟩
   ·rename_i hl1
    simp only [List.append_nil]
    have hc:=c.heard e hin hn hl1 (fun _=>hr) (fun h=>by rw [hu] at h;cases h)
    exact ⟨hc,fun x hx=>hx.heard e _,fun x hx=>by cases hx⟩
  split
  ·rename_i h3
   obtain ⟨k3,hu⟩:=h3
   simp only [List.append_nil]
   have hsub:(A ++ B).Sublist hd.opn:=by rw [e];exact (List.Sublist.refl A).append (List.sublist_cons_self o B)
   have hon:=c.ond
   rw [e] at hon
   have hc:=c.drop hsub fun x hx hn=>by
    rw [e] at hx
    simp only [List.mem_append,List.mem_cons] at hx hn
    rcases hx with hx | rfl | hx
    ·exact absurd (.inl hx) hn
    ·exact hu
    ·exact absurd (.inr hx) hn
   refine ⟨hc,fun x hx=>hx.drop hsub,aborts_ok hc (by rw [hod];exact hoG) (fun r hr he=>?_) fun o' ho'=>open_deed hon ho'⟩
   have:=(c.odec o ho).2 ⟨r,hr,he⟩
   rw [hu] at this;cases this
  split
  ·rename_i h6
   obtain ⟨k6,hu,hin,hn⟩:=h6
   have hr:dne hs m.house o.deed:=by rw [hod];exact hm.ack k6
   split
   ·rename_i hl1
    have hall:∀ k ∈ housesE o.parts,dne hs k o.deed:=fun k hk'=>by
     rcases List.mem_append.1 (hlast hl1 hn k hk') with h | h
     ·exact c.odne o ho hu k h
     ·rw [List.mem_singleton.1 h];exact hr
    simp only [List.append_nil]
    exact ⟨c.end' e hu hall,fun x hx=>hx.end' e,fun x hx=>by cases hx⟩
   ·rename_i hl1
    simp only [List.append_nil]
    exact ⟨c.heard e hin hn hl1 (fun h=>by rw [hu] at h;cases h) (fun _=>hr),fun x hx=>hx.heard e _,fun x hx=>by cases hx⟩
  split
  ·rename_i h7
   obtain ⟨k7,hu⟩:=h7
   rw [hsame]
   refine ⟨c,fun _ h=>h,fun x hx=>?_⟩
   obtain rfl:=List.mem_singleton.1 hx
   have h1:=(c.odec o ho).1 hu
   rw [hod] at h1
   exact ⟨c.plain hP hk (by omega) (by omega),c.here hP hk,⟨o.parts,hP,hk,(fun e=>by cases e)⟩,(fun e=>by cases e),fun _=>h1,(fun e=>by cases e),(fun e=>by cases e)⟩
  ·rw [hsame]
   exact ⟨c,fun _ h=>h,fun x hx=>by cases hx⟩
structure WI (n:Nat) (G:Reg) (w:AW):Prop where
 core:Core n G w.head w.houses
 net:∀ m ∈ w.net,MOk n G w.head w.houses m
 len:w.net.length ≤ 24
theorem send_mem {net ms:List Ms} {x:Ms} (h:x ∈ sendA net ms):x ∈ net ∨ x ∈ ms:=by
 unfold sendA at h
 rcases List.mem_append.1 h with h | h
 ·exact .inl h
 ·exact .inr (List.mem_of_mem_take h)
theorem send_len {net:List Ms} (ms:List Ms) (h:net.length ≤ 24):(sendA net ms).length ≤ 24:=by
 unfold sendA
 rw [List.length_append,List.length_take]
 omega
theorem WI.mk' {n:Nat} {G:Reg} {hd:Hd} {hs:List Hs} {net ms:List Ms} (c:Core n G hd hs) (h1:∀ m ∈ net,MOk n G hd hs m) (h2:∀ m ∈ ms,MOk n G hd hs m) (hl:net.length ≤ 24):WI n G ⟨hd,hs,sendA net ms⟩:=
 ⟨c,fun m hm=>by
  rcases send_mem hm with h | h
  ·exact h1 m h
  ·exact h2 m h,send_len ms hl⟩
theorem ticks_ok {n:Nat} {G:Reg} {hd:Hd} {hs:List Hs} (c:Core n G hd hs) {k:Nat} {h:Hs} (hk:hs[k]? = some h):∀ m ∈ hTickE h k,MOk n G hd hs m:=by
 intro m hm
 unfold hTickE at hm
 obtain ⟨r,hr,rfl⟩:=List.mem_map.1 hm
 obtain ⟨P,hP,hp,hne⟩:=(c.house k h hk).reg r hr
 have hlt:=(List.getElem?_eq_some_iff.1 hk).1
 have h3:=c.n3
 have hl:=c.len
 have hin:(k:Int) ∈ housesE P:=houses_mem.2 ⟨by omega,by rw [← hp];exact hne⟩
 exact ⟨c.plain hP hin (by omega) (by omega),c.here hP hin,⟨P,hP,hin,(fun e=>by cases e)⟩,(fun e=>by cases e),(fun e=>by cases e),(fun e=>by cases e),(fun e=>by cases e)⟩
theorem tickE_ok {n:Nat} {G:Reg} {hd:Hd} {hs:List Hs} (c:Core n G hd hs):∀ m ∈ tickE hd,MOk n G hd hs m:=by
 intro m hm
 unfold tickE at hm
 obtain ⟨o,ho,hm⟩:=List.mem_flatMap.1 hm
 exact asks_ok c ho m hm
theorem WI.come {n:Nat} {G:Reg} {w:AW} (i:WI n G w) {m:Ms} (hm:MOk n G w.head w.houses m) (hl:w.net.length ≤ 24):WI n G (comeA w m):=by
 unfold comeA
 cases hk:w.houses[m.house.toNat]? with
 | none=>exact i
 | some h=>
  simp only
  split
  ·obtain ⟨c,h1,h2⟩:=i.core.hear hm hk
   exact WI.mk' c (fun x hx=>h1 x (i.net x hx)) h2 hl
  ·obtain ⟨c,h1,h2⟩:=i.core.hHear hm
   exact WI.mk' c (fun x hx=>h1 x (i.net x hx)) h2 hl
theorem WI.tick {n:Nat} {G:Reg} {w:AW} (i:WI n G w) (k:Nat):WI n G (tickA w k):=by
 unfold tickA
 split
 ·exact WI.mk' i.core i.net (tickE_ok i.core) i.len
 ·cases hk:w.houses[k]? with
  | none=>exact i
  | some h=>exact WI.mk' i.core i.net (ticks_ok i.core hk) i.len
theorem WI.drop {n:Nat} {G:Reg} {w:AW} (i:WI n G w) (k:Nat):WI n G { w with net:=w.net.eraseIdx k }:=
 ⟨i.core,fun m hm=>i.net m (List.mem_of_mem_eraseIdx hm),Nat.le_trans (List.length_eraseIdx_le _ _) i.len⟩
theorem WI.there {n:Nat} {G:Reg} {w:AW} (i:WI n G w) {k:Int} (h:there w k = true):MOk n G w.head w.houses (w.net.getD k.toNat ⟨0,0,0,[]⟩):=by
 unfold Go.Proofs.Ytgbhpghgohggcaa.there at h
 rw [decide_eq_true_eq] at h
 have hl:k.toNat < w.net.length:=by omega
 have:w.net.getD k.toNat ⟨0,0,0,[]⟩ = w.net[k.toNat]:=by rw [List.getD_eq_getElem?_getD,List.getElem?_eq_getElem hl];rfl
 rw [this]
 exact i.net _ (List.getElem_mem _)
theorem WI.step' {n:Nat} {G:Reg} {w:AW} (i:WI n G w) (s:St):∃ G',WI n G' (doA w s)∧(G' = G ∨ (s.kind = 1∧∃ d,G' = (d,s.parts) :: G)):=by
 unfold doA
 split
 ·rename_i k1
  split
  ·rename_i hw
   rw [i.core.len] at hw
   cases hf:fullE w.head with
   | false=>
    obtain ⟨c,h1,h2⟩:=i.core.begin hw hf
    exact ⟨_,WI.mk' c (fun x hx=>h1 x (i.net x hx)) h2 i.len,.inr ⟨k1,_,rfl⟩⟩
   | true=>
    refine ⟨G,?_,.inl rfl⟩
    have e1:beginH w.head s.parts = w.head:=by unfold beginH;rw [if_pos hf]
    have e2:beginM w.head s.parts = []:=by unfold beginM;rw [if_pos hf]
    rw [e1,e2]
    exact WI.mk' i.core i.net (by simp) i.len
  ·exact ⟨G,i,.inl rfl⟩
 refine ⟨G,?_,.inl rfl⟩
 split
 ·split
  ·rename_i ht
   have hm:=i.there ht
   have i2:=i.drop s.n.toNat
   exact i2.come (m:=w.net.getD s.n.toNat ⟨0,0,0,[]⟩) hm i2.len
  ·exact i
 split
 ·split
  ·exact i.drop _
  ·exact i
 split
 ·split
  ·rename_i ht
   refine ⟨i.core,fun m hm=>?_,?_⟩
   ·rcases List.mem_append.1 hm with hm | hm
    ·exact i.net m hm
    ·rw [List.mem_singleton.1 hm];exact i.there ht.1
   ·rw [List.length_append];have:=ht.2;simp;omega
  ·exact i
 split
 ·split
  ·by_cases hb:19 < w.head.boot
   ·have e:fallH w.head = w.head:=by unfold fallH;rw [if_pos hb]
    rw [e];exact i
   ·obtain ⟨c,h1⟩:=i.core.fall hb
    exact ⟨c,fun m hm=>h1 m (i.net m hm),i.len⟩
  ·exact i
 split
 ·split
  ·exact i.tick _
  ·exact i
 split
 ·obtain ⟨c,h1,h2⟩:=i.core.quit
  exact WI.mk' c (fun x hx=>h1 x (i.net x hx)) h2 i.len
 ·exact i
theorem WI.step {n:Nat} {G:Reg} {w:AW} (i:WI n G w) (s:St):∃ G',WI n G' (doA w s)∧(∀ x ∈ G,x ∈ G')∧∀ x ∈ G',x ∈ G ∨ (s.kind = 1∧x.2 = s.parts):=by
 obtain ⟨G',i',rfl | ⟨h1,d,rfl⟩⟩:=i.step' s
 ·exact ⟨_,i',fun _ h=>h,fun _ h=>.inl h⟩
 ·refine ⟨_,i',fun x hx=>List.mem_cons_of_mem _ hx,fun x hx=>?_⟩
  rcases List.mem_cons.1 hx with rfl | hx
  ·exact .inr ⟨h1,rfl⟩
  ·exact .inl hx
theorem WI.zero {n:Nat} (h:1 ≤ n∧n ≤ 3):WI n [] (newA n):=by
 refine ⟨?_,by intro m hm;simp [newA] at hm,by simp [newA]⟩
 have hb:(headR [⟨4,0,[]⟩]).boot = 1:=by kernel_rfl
 exact {
  len:=by simp [newA]
  n3:=h
  reg:=⟨by simp,by simp⟩
  old:=by simp
  boot:=by show 1 ≤ (headR [⟨4,0,[]⟩]).boot∧(headR [⟨4,0,[]⟩]).boot ≤ 20;rw [hb];omega
  next:=by show 0 ≤ (0:Int)∧(0:Int) ≤ 64;omega
  lboot:=rfl
  lopn:=fun d P=>by
   constructor
   ·rintro ⟨o,ho,-⟩;cases ho
   ·rintro ⟨o,ho,-⟩;cases ho
  lnd:=List.nodup_nil
  ldec:=fun o ho=>by cases ho
  ond:=List.nodup_nil
  oreg:=fun o ho=>by cases ho
  olen:=Nat.zero_le _
  odec:=fun o ho=>by cases ho
  onew:=fun o ho=>by cases ho
  ordy:=fun o ho=>by cases ho
  odne:=fun o ho=>by cases ho
  dec:=⟨(fun r hr=>by cases hr),List.nodup_nil⟩
  held:=fun r hr=>by cases hr
  ends:=fun r hr=>by cases hr
  house:=fun k x hx=>by
   have:x = hs0:=by
    simp only [newA] at hx
    rw [List.getElem?_replicate] at hx
    split at hx
    ·exact (Option.some.inj hx).symm
    ·cases hx
   rw [this]
   exact HI.zero _ _ _
  ord:=List.Pairwise.nil
  pre:=fun A B e k q=>by
   have hA:A = []:=(List.append_eq_nil_iff.1 e.symm).1
   rw [hA]
   simp [tot] }
theorem WI.play {n:Nat}:∀ (l:List St) {G:Reg} {w:AW},WI n G w→∃ G',WI n G' (playA w l)∧(∀ x ∈ G,x ∈ G')∧∀ x ∈ G',x ∈ G ∨ ∃ s ∈ l,s.kind = 1∧x.2 = s.parts
 | [],G,w,i=>⟨G,i,fun _ h=>h,fun _ h=>.inl h⟩
 | s :: l,G,w,i=>by
  obtain ⟨G1,i1,a1,b1⟩:=i.step s
  obtain ⟨G2,i2,a2,b2⟩:=WI.play l i1
  refine ⟨G2,i2,fun x hx=>a2 x (a1 x hx),fun x hx=>?_⟩
  rcases b2 x hx with h | ⟨t,ht,h⟩
  ·rcases b1 x h with h | h
   ·exact .inl h
   ·exact .inr ⟨s,List.mem_cons_self,h⟩
  ·exact .inr ⟨t,List.mem_cons_of_mem _ ht,h⟩
theorem WI.of_play {n:Nat} (h:1 ≤ n∧n ≤ 3) (l:List St):∃ G,WI n G (playA (newA n) l)∧∀ x ∈ G,∃ s ∈ l,s.kind = 1∧x.2 = s.parts:=by
 obtain ⟨G,i,-,b⟩:=WI.play l (WI.zero h)
 refine ⟨G,i,fun x hx=>?_⟩
 rcases b x hx with h | h
 ·cases h
 ·exact h
def Ty.wd:Ty AW where
 size:=6
 R:=fun c cs x=>∃ vlog vopn vhs vnet:Value,cs = [vlog,.int .i64 x.head.boot,.int .i64 x.head.next,vopn,vhs,vnet]∧Sl Ty.rc c vlog x.head.log∧I64 x.head.boot∧I64 x.head.next∧Sl Ty.opn c vopn x.head.opn∧Sl Ty.hs c vhs x.houses∧Nts c vnet (x.net.map bytesM)
 len:=by rintro c cs x ⟨_,_,_,_,rfl,_⟩;rfl
 mono:=by rintro c c' cs x h ⟨a,b,d,e,rfl,h1,h2,h3,h4,h5,h6⟩;exact ⟨a,b,d,e,rfl,h1.mono h,h2,h3,h4.mono h,h5.mono h,h6.mono h⟩
theorem Of.wd_form {c:CM} {v:Value} {x:AW} (hv:Of Ty.wd c v x):∃ al cl ao co ah ch an cn,v = .agg #[.slice al x.head.log.length cl,.int .i64 x.head.boot,.int .i64 x.head.next,.slice ao x.head.opn.length co,.slice ah x.houses.length ch,.slice an x.net.length cn]:=by
 obtain ⟨cs,rfl,vl,vo,vh,vn,rfl,hl,-,-,ho,hh,hn⟩:=hv
 obtain ⟨al,cl,rfl,-⟩:=id hl
 obtain ⟨ao,co,rfl,-⟩:=id ho
 obtain ⟨ah,ch,rfl,-⟩:=id hh
 obtain ⟨an,cn,rfl,-⟩:=id hn
 exact ⟨al,cl,ao,co,ah,ch,an,cn,by simp⟩
theorem Of.wd_parts {c:CM} {vl vo vh vn b n:Value} {x:AW} (hv:Of Ty.wd c (.agg #[vl,b,n,vo,vh,vn]) x):Of Ty.hd c (.agg #[vl,b,n,vo]) x.head∧Sl Ty.hs c vh x.houses∧Nts c vn (x.net.map bytesM):=by
 obtain ⟨cs,he,vl',vo',vh',vn',rfl,hl,hb,hn,ho,hh,hnn⟩:=hv
 simp at he
 obtain ⟨rfl,rfl,rfl,rfl,rfl,rfl⟩:=he
 exact ⟨⟨_,rfl,_,_,rfl,hl,hb,hn,ho⟩,hh,hnn⟩
theorem Of.wd_mk {c:CM} {vl vo vh vn b n:Value} {hd:Hd} {hs:List Hs} {net:List Ms} (h1:Of Ty.hd c (.agg #[vl,b,n,vo]) hd) (h2:Sl Ty.hs c vh hs) (h3:Nts c vn (net.map bytesM)):Of Ty.wd c (.agg #[vl,b,n,vo,vh,vn]) ⟨hd,hs,net⟩:=by
 obtain ⟨cs,he,vl',vo',rfl,hl,hb,hn,ho⟩:=h1
 simp at he
 obtain ⟨rfl,rfl,rfl,rfl⟩:=he
 exact ⟨_,rfl,_,_,_,_,rfl,hl,hb,hn,ho,h2,h3⟩
theorem Of.opn_form {c:CM} {v:Value} {o:Opn} (hv:Of Ty.opn c v o):∃ ap cp ah ch,v = .agg #[.int .i64 o.deed,.slice ap o.parts.length cp,.bool o.dec,.slice ah o.heard.length ch]:=by
 obtain ⟨cs,rfl,vp,vh,rfl,-,hp,hh⟩:=hv
 obtain ⟨ap,cp,rfl,-⟩:=id hp
 obtain ⟨ah,ch,rfl,-⟩:=id hh
 exact ⟨_,_,_,_,rfl⟩
theorem Of.opn_parts {c:CM} {d b vp vh:Value} {o:Opn} (hv:Of Ty.opn c (.agg #[d,vp,b,vh]) o):I64 o.deed∧Sl Ty.pt c vp o.parts∧Sl Ty.int c vh o.heard:=by
 obtain ⟨cs,he,vp',vh',rfl,hd,hp,hh⟩:=hv
 simp at he
 obtain ⟨-,rfl,-,rfl⟩:=he
 exact ⟨hd,hp,hh⟩
theorem ov_none_sub (w w':World):Sub (ov (fun _=>none) w w') w'.cell?:=fun a v e=>by
 unfold ov at e
 split at e
 ·cases e
 ·exact e
theorem OwnC.ovn {α:Type} {T:Ty α} (h0:0 < T.size) {w w':World} {e:Nat} {v:Value} {l:List α} (h:OwnC T (fr w w' [v.ownBlock]) w' w.heap.size e v l):Sl T (ov (fun _=>none) w w') v l:=
 h.slc h0 (fr_ov _ _ _ _) fun _ ha=>ov_new ha
structure Few (k:Nat) (w:AW):Prop where
 log:w.head.log.length ≤ k + 1
 logs:∀ h ∈ w.houses,h.log.length ≤ k
def SumsAre (n:Nat) (A:List Rd) (sums:List Sm):Prop:=sums.length = n∧∀ (k:Nat) s,sums[k]? = some s→∀ q:Int,0 ≤ q→q < 4→s.get q = tot k q A
theorem Core.all {n:Nat} {G:Reg} {hd:Hd} {hs:List Hs} (c:Core n G hd hs):∀ (B A:List Rd) (sums:List Sm),decidedR hd.log = A ++ B→SumsAre n A sums→
  (allE sums B).2 = B.map (fun _=>(0:Int))∧SumsAre n (decidedR hd.log) (allE sums B).1
 | [],A,sums,e,h=>by
  rw [List.append_nil] at e
  rw [e];exact ⟨rfl,h⟩
 | r :: B,A,sums,e,h=>by
  have hr:r ∈ decidedR hd.log:=by rw [e];simp
  have hw:wrongE r.parts n = 0:=(c.reg.ok _ (c.dec.reg r hr)).2
  have hright:∀ (k:Nat) s,sums[k]? = some s→rightS s = true:=fun k s hs'=>rightS_get.2 fun q a b=>by
   rw [h.2 k s hs' q a b]
   exact c.pre A (r :: B) e k q
  have e2:decidedR hd.log = (A ++ [r]) ++ B:=by rw [e];simp
  have hfit:∀ (k:Nat) s,sums[k]? = some s→fitsE s.get (ofL r.parts ((0 + k:Nat):Int)) = 0:=fun k s hs'=>by
   rw [Nat.zero_add]
   refine (fits_sum hw (hright k s hs') k).2 fun q a b=>?_
   have:=c.pre (A ++ [r]) B e2 k q
   rw [tot_app,tot,tot,← h.2 k s hs' q a b] at this
   omega
  have hz:=errGo_zero (k0:=0) hfit
  have hda:doAllE sums r.parts = (putGo r.parts 0 sums,0):=by unfold doAllE;rw [if_pos hz]
  have h2:SumsAre n (A ++ [r]) (putGo r.parts 0 sums):=by
   refine ⟨by rw [putGo_len];exact h.1,fun k s hs' q a b=>?_⟩
   rw [putGo_get] at hs'
   cases hk:sums[k]? with
   | none=>rw [hk] at hs';simp at hs'
   | some t=>
    rw [hk] at hs'
    simp only [Option.map_some,Option.some.injEq,Nat.zero_add] at hs'
    rw [← hs',doP_sum hw (hright k t hk) k a b,h.2 k t hk q a b,tot_app,tot,tot]
    omega
  obtain ⟨i1,i2⟩:=Core.all c B (A ++ [r]) _ e2 h2
  show (doAllE sums r.parts).2 :: (allE (doAllE sums r.parts).1 B).2 = 0 :: B.map (fun _=>(0:Int))∧SumsAre n _ (allE (doAllE sums r.parts).1 B).1
  rw [hda]
  exact ⟨by rw [i1],i2⟩
def wt (m:Ms):Nat:=if m.kind = 1 then 8 else if m.kind = 2 then 7 else if m.kind = 3 then 4 else if m.kind = 4 then 2 else if m.kind = 7 then 3 else 1
def wts:List Ms→Nat
 | []=>0
 | m :: l=>wt m + wts l
theorem wts_app:∀ a b:List Ms,wts (a ++ b) = wts a + wts b
 | [],b=>by simp [wts]
 | m :: a,b=>by rw [List.cons_append,wts,wts,wts_app a b];omega
theorem wts_take:∀ (l:List Ms) (k:Nat),wts (l.take k) ≤ wts l
 | [],k=>by simp [wts]
 | m :: l,0=>by simp [wts]
 | m :: l,k + 1=>by rw [List.take_succ_cons,wts,wts];have:=wts_take l k;omega
theorem wts_send (net ms:List Ms):wts (sendA net ms) ≤ wts net + wts ms:=by
 unfold sendA
 rw [wts_app]
 have:=wts_take ms (24 - net.length)
 omega
theorem wts_all {c:Nat}:∀ {l:List Ms},(∀ m ∈ l,wt m ≤ c)→wts l ≤ l.length * c
 | [],_=>by simp [wts]
 | m :: l,h=>by
  have h1:=h m List.mem_cons_self
  have h2:=wts_all (l:=l) fun x hx=>h x (List.mem_cons_of_mem _ hx)
  rw [wts,List.length_cons,Nat.add_mul]
  omega
theorem wt_pos (m:Ms):1 ≤ wt m:=by
 unfold wt
 split
 ·omega
 split
 ·omega
 split
 ·omega
 split
 ·omega
 split
 ·omega
 ·omega
theorem houses_len (P:List Pt):(housesE P).length ≤ 3:=by
 unfold housesE
 exact Nat.le_trans (List.length_filter_le _ _) (by decide)
theorem hear_wt (h:Hs) (me:Int) (m:Ms):wts (hearM h me m) < wt m:=by
 unfold hearM
 split
 ·rename_i h1
  have:wt m = 8:=by unfold wt;rw [if_pos h1]
  split
  ·rw [this];simp [wts]
  ·split
   ·rw [this];simp [wts,sayE,wt]
   ·rw [this];simp [wts,sayE,wt]
 ·split
  ·rename_i h4
   have:wt m = 2:=by unfold wt;simp [h4]
   split
   ·rw [this];simp [wts,sayE,wt]
   ·rw [this];simp [wts]
  ·have:=wt_pos m
   simp only [wts];omega
theorem hearO_wt (o:Opn) (m:Ms):wts (hearO o m).2.2 < wt m:=by
 have hp:=wt_pos m
 unfold hearO
 split
 ·rename_i h2
  have:wt m = 7:=by unfold wt;simp [h2.1]
  split
  ·have h3:wts (asksE { o with dec:=true,heard:=[] }) ≤ (asksE { o with dec:=true,heard:=[] }).length * 2:=wts_all fun x hx=>by
    unfold asksE at hx
    obtain ⟨k,-,rfl⟩:=List.mem_map.1 hx
    simp [commitM,wt]
   have h4:(asksE { o with dec:=true,heard:=[] }).length ≤ 3:=by
    unfold asksE
    rw [List.length_map]
    exact Nat.le_trans (List.length_filter_le _ _) (houses_len _)
   show wts (asksE _) < _
   omega
  ·show wts [] < _
   simp only [wts];omega
 split
 ·rename_i h3
  have:wt m = 4:=by unfold wt;simp [h3.1]
  have h3:wts (abortsE o.deed o.parts) ≤ (abortsE o.deed o.parts).length * 1:=wts_all fun x hx=>by
   unfold abortsE at hx
   obtain ⟨k,-,rfl⟩:=List.mem_map.1 hx
   simp [wt]
  have h4:(abortsE o.deed o.parts).length ≤ 3:=by
   unfold abortsE
   rw [List.length_map]
   exact houses_len _
  show wts (abortsE _ _) < _
  omega
 split
 ·split
  ·show wts [] < _
   simp only [wts];omega
  ·show wts [] < _
   simp only [wts];omega
 split
 ·rename_i h7
  have:wt m = 3:=by unfold wt;simp [h7.1]
  rw [this]
  simp [wts,wt]
 ·show wts [] < _
  simp only [wts];omega
theorem hHear_wt (h:Hd) (m:Ms):wts (hHearM h m) < wt m:=by
 have hp:=wt_pos m
 unfold hHearM
 cases hl:hearL m h.opn with
 | none=>
  simp only
  split
  ·rename_i h7
   have:wt m = 3:=by unfold wt;simp [h7]
   rw [this]
   simp [wts,wt]
  ·simp only [wts];omega
 | some x=>
  obtain ⟨A,o,B,-,-,-,rfl⟩:=hearL_some hl
  exact hearO_wt o m
theorem come_wt (w:AW) (m:Ms):wts (comeA w m).net < wts w.net + wt m:=by
 have hp:=wt_pos m
 unfold comeA
 cases w.houses[m.house.toNat]? with
 | none=>simp only;omega
 | some h=>
  simp only
  split
  ·have h1:=wts_send w.net (hearM h m.house m)
   have h2:=hear_wt h m.house m
   show wts (sendA _ _) < _
   omega
  ·have h1:=wts_send w.net (hHearM w.head m)
   have h2:=hHear_wt w.head m
   show wts (sendA _ _) < _
   omega
def drainN:Nat→AW→AW
 | 0,w=>w
 | f + 1,w=>match w.net with
  | []=>w
  | m :: l=>drainN f (comeA { w with net:=l } m)
def drainA (w:AW):AW:=drainN (wts w.net) w
theorem drain_step {w:AW} {m:Ms} {l:List Ms} (h:w.net = m :: l):wts (comeA { w with net:=l } m).net < wts w.net:=by
 have:=come_wt { w with net:=l } m
 rw [h,wts]
 simp only at this
 omega
theorem drainN_more:∀ (f g:Nat) (w:AW),wts w.net ≤ f→f ≤ g→drainN g w = drainN f w
 | 0,g,w,h,_=>by
  have:w.net = []:=by
   cases hn:w.net with
   | nil=>rfl
   | cons m l=>rw [hn,wts] at h;have:=wt_pos m;omega
  cases g with
  | zero=>rfl
  | succ g=>unfold drainN;rw [this]
 | f + 1,0,w,h,hg=>by omega
 | f + 1,g + 1,w,h,hg=>by
  cases hn:w.net with
  | nil=>unfold drainN;rw [hn]
  | cons m l=>
   have:=drain_step hn
   unfold drainN
   rw [hn]
   exact drainN_more f g _ (by omega) (by omega)
theorem drain_nil {w:AW} (h:w.net = []):drainA w = w:=by
 unfold drainA
 rw [h];rfl
theorem drain_cons {w:AW} {m:Ms} {l:List Ms} (h:w.net = m :: l):drainA w = drainA (comeA { w with net:=l } m):=by
 have h1:=drain_step h
 unfold drainA
 have hp:∃ k,wts w.net = k + 1:=⟨wts w.net - 1,by omega⟩
 obtain ⟨k,hk⟩:=hp
 have e:drainN (k + 1) w = drainN k (comeA { w with net:=l } m):=by
  show (match w.net with | []=>w | m :: l=>drainN k (comeA { w with net:=l } m)) = _
  rw [h]
 rw [hk,e]
 exact drainN_more _ _ _ (Nat.le_refl _) (by omega)
theorem drain_keeps {p:AW→Prop} (hstep:∀ (w:AW) (m:Ms) (l:List Ms),p w→w.net = m :: l→p (comeA { w with net:=l } m)):∀ (f:Nat) (w:AW),wts w.net ≤ f→p w→p (drainA w)∧(drainA w).net = []
 | f,w,hf,hp=>by
  cases hn:w.net with
  | nil=>rw [drain_nil hn];exact ⟨hp,hn⟩
  | cons m l=>
   have h1:=drain_step hn
   rw [drain_cons hn]
   cases f with
   | zero=>omega
   | succ f=>exact drain_keeps hstep f _ (by omega) (hstep w m l hp hn)
theorem WI.come1 {n:Nat} {G:Reg} {w:AW} (i:WI n G w) {m:Ms} {l:List Ms} (h:w.net = m :: l):WI n G (comeA { w with net:=l } m):=by
 have hl:=i.len
 rw [h] at hl
 simp at hl
 have i2:WI n G { w with net:=l }:=⟨i.core,fun x hx=>i.net x (by rw [h];exact List.mem_cons_of_mem _ hx),by show l.length ≤ 24;omega⟩
 exact i2.come (i.net m (by rw [h];exact List.mem_cons_self)) i2.len
theorem WI.drain {n:Nat} {G:Reg} {w:AW} (i:WI n G w):WI n G (drainA w)∧(drainA w).net = []:=
 drain_keeps (p:=fun w=>WI n G w) (fun _ _ _ h e=>h.come1 e) _ w (Nat.le_refl _) i
def NoRdy (w:AW) (j:Nat):Prop:=∀ h,w.houses[j]? = some h→h.ready = []
theorem keysOf_len:∀ {l:List Rd},(∀ r ∈ l,r.parts ≠ [])→l.length ≤ (keysOf l).length
 | [],_=>Nat.zero_le _
 | r :: l,h=>by
  have ih:=keysOf_len (l:=l) fun x hx=>h x (List.mem_cons_of_mem _ hx)
  have h1:0 < r.parts.length:=List.length_pos_iff.2 (h r List.mem_cons_self)
  rw [keysOf_cons,List.length_append,List.length_map,List.length_cons]
  omega
theorem ready_len {n:Nat} {G:Reg} {hd:Hd} {hs:List Hs} (c:Core n G hd hs) {k:Nat} {h:Hs} (hk:hs[k]? = some h):h.ready.length ≤ 4:=by
 have hi:=c.house k h hk
 have h1:=keysOf_len (l:=h.ready) fun r hr=>by
  obtain ⟨P,-,-,hne⟩:=hi.reg r hr
  exact hne
 have h2:=len_le hi.calm.apart (b:=[0,1,2,3]) fun q hq=>by
  unfold keysOf at hq
  obtain ⟨r,hr,hq⟩:=List.mem_flatMap.1 hq
  obtain ⟨P,hP,hp,-⟩:=hi.reg r hr
  obtain ⟨p,hp',rfl⟩:=List.mem_map.1 hq
  rw [hp] at hp'
  have:=ofL_ok (c.reg.ok _ hP).2 k p hp'
  simp
  omega
 simp only [List.length_cons,List.length_nil] at h2
 omega
def tickD (w:AW) (k:Nat):AW:=drainA (tickA w k)
theorem WI.tickD {n:Nat} {G:Reg} {w:AW} (i:WI n G w) (k:Nat):WI n G (tickD w k)∧(tickD w k).net = []:=(i.tick k).drain
def roundA (w:AW):AW:=tickD (tickD (tickD (tickD (drainA w) 3) 2) 1) 0
structure Quiet (w:AW):Prop where
 net:w.net = []
 opn:w.head.opn = []
 ready:∀ j,NoRdy w j
theorem WI.round {n:Nat} {G:Reg} {w:AW} (i:WI n G w):WI n G (roundA w):=
 ((((i.drain.1.tickD 3).1.tickD 2).1.tickD 1).1.tickD 0).1
theorem headFold_log:∀ (l:List Rc) (h:Hd),(l.foldl headStep h).log = h.log
 | [],_=>rfl
 | r :: l,h=>by
  rw [List.foldl_cons,headFold_log l]
  unfold headStep
  split
  ·rfl
  ·split
   ·rfl
   ·split <;> rfl
theorem headR_log (l:List Rc):(headR l).log = l:=headFold_log l _
theorem hearH_len {h:Hs} (m:Ms) {k:Nat} (hk:h.log.length ≤ k):(hearH h m).log.length ≤ k + 1:=by
 have hn:∀ r:Rc,(noteE h r).log.length ≤ k + 1:=fun r=>by
  rw [show (noteE h r).log = h.log ++ [r] from log_house _];simpa using hk
 unfold hearH
 split
 ·split
  ·exact hn _
  ·omega
 ·split
  ·split
   ·exact hn _
   ·omega
  ·split
   ·split
    ·exact hn _
    ·omega
   ·omega
theorem hearO_log (o:Opn) (m:Ms):(hearO o m).2.1.length ≤ 1:=by
 unfold hearO
 split
 ·split <;> simp
 ·split
  ·simp
  ·split
   ·split <;> simp
   ·split <;> simp
theorem hearL_log {m:Ms}:∀ {l:List Opn} {x:List Opn × List Rc × List Ms},hearL m l = some x→x.2.1.length ≤ 1
 | [],x,h=>by simp [hearL] at h
 | o :: l,x,h=>by
  rw [hearL] at h
  split at h
  ·rw [← Option.some.inj h];exact hearO_log o m
  ·cases e:hearL m l with
   | none=>rw [e] at h;cases h
   | some y=>
    rw [e] at h
    rw [← Option.some.inj h]
    have h9:=hearL_log e
    exact h9
theorem hHear_log {h:Hd} (m:Ms) {k:Nat} (hk:h.log.length ≤ k):(hHearH h m).log.length ≤ k + 1:=by
 unfold hHearH
 split
 ·omega
 ·rename_i x e
  have:=hearL_log e
  show (h.log ++ x.2.1).length ≤ _
  rw [List.length_append];omega
theorem begin_log (h:Hd) (P:List Pt):(beginH h P).log = h.log:=by
 unfold beginH
 split <;> rfl
theorem fall_log {h:Hd} {k:Nat} (hk:h.log.length ≤ k):(fallH h).log.length ≤ k + 1:=by
 unfold fallH
 split
 ·omega
 ·rw [headR_log];simpa using hk
theorem Few.more {k:Nat} {w:AW} (f:Few k w):Few (k + 1) w:=⟨by have:=f.log;omega,fun h hh=>by have:=f.logs h hh;omega⟩
theorem Few.come {k:Nat} {w:AW} (f:Few k w) (m:Ms):Few (k + 1) (comeA w m):=by
 unfold comeA
 split
 ·exact f.more
 ·rename_i h e
  split
  ·refine ⟨by have:=f.log;show w.head.log.length ≤ _;omega,fun x hx=>?_⟩
   rcases List.mem_or_eq_of_mem_set hx with hx | rfl
   ·have:=f.logs x hx;omega
   ·exact hearH_len m (f.logs h (List.mem_of_getElem? e))
  ·exact ⟨hHear_log m f.log,fun x hx=>by have:=f.logs x hx;omega⟩
theorem Few.step {k:Nat} {w:AW} (f:Few k w) (s:St):Few (k + 1) (doA w s):=by
 have f1:=f.more
 have f2:∀ net,Few k { w with net:=net }:=fun _=>⟨f.log,f.logs⟩
 unfold doA
 split
 ·split
  ·exact ⟨by show (beginH w.head s.parts).log.length ≤ _;rw [begin_log];exact f1.log,f1.logs⟩
  ·exact f1
 ·split
  ·split
   ·exact (f2 _).come _
   ·exact f1
  ·split
   ·split
    ·exact (f2 _).more
    ·exact f1
   ·split
    ·split
     ·exact (f2 _).more
     ·exact f1
    ·split
     ·split
      ·exact ⟨fall_log f.log,f1.logs⟩
      ·exact f1
     ·split
      ·split
       ·unfold tickA
        split
        ·exact (f2 _).more
        ·split
         ·exact f1
         ·exact (f2 _).more
       ·exact f1
      ·split
       ·exact ⟨f1.log,f1.logs⟩
       ·exact f1
theorem Few.zero (n:Nat):Few 0 (newA n):=⟨by show (headR _).log.length ≤ _;rw [headR_log];simp,fun h hh=>by
 rw [List.eq_of_mem_replicate hh];show (houseR []).log.length ≤ _;rw [log_house];simp⟩
theorem Few.play (n:Nat):∀ (l:List St) {k:Nat} {w:AW},Few k w→Few (k + l.length) (playA w l)
 | [],k,w,f=>f
 | s :: l,k,w,f=>by
  show Few _ (playA (doA w s) l)
  have:=Few.play n l (f.step s)
  rw [List.length_cons,show k + (l.length + 1) = k + 1 + l.length by omega]
  exact this
structure Small (w:AW):Prop where
 few:∃ k,k ≤ 1000∧Few k w
 wi:∃ n G,WI n G w
theorem fmap_next {α β:Type} (q:α→Bool) (f:α→β) {l:List α} {j:Nat} (h:j < l.length):((l.take (j + 1)).filter q).map f = if q l[j] = true then ((l.take j).filter q).map f ++ [f l[j]] else ((l.take j).filter q).map f:=by
 rw [List.take_succ_eq_append_getElem h,List.filter_append,List.map_append]
 by_cases hq:q l[j] = true <;> simp [hq]
theorem map_next {α β:Type} (f:α→β) {l:List α} {j:Nat} (h:j < l.length):(l.take (j + 1)).map f = (l.take j).map f ++ [f l[j]]:=by
 rw [List.take_succ_eq_append_getElem h,List.map_append];rfl
theorem flat_next {α β:Type} (f:α→List β) {l:List α} {j:Nat} (h:j < l.length):(l.take (j + 1)).flatMap f = (l.take j).flatMap f ++ f l[j]:=by
 rw [List.take_succ_eq_append_getElem h,List.flatMap_append];simp
theorem fflat_next {α β:Type} (q:α→Bool) (f:α→List β) {l:List α} {j:Nat} (h:j < l.length):((l.take (j + 1)).filter q).flatMap f = if q l[j] = true then ((l.take j).filter q).flatMap f ++ f l[j] else ((l.take j).filter q).flatMap f:=by
 rw [List.take_succ_eq_append_getElem h,List.filter_append,List.flatMap_append]
 by_cases hq:q l[j] = true <;> simp [hq]
theorem houses_short (l:List Pt):(housesE l).length ≤ 3:=Nat.le_trans (List.length_filter_le _ _) (by simp)
theorem asks_short (o:Opn):(asksE o).length ≤ 3:=by
 unfold asksE
 rw [List.length_map]
 exact Nat.le_trans (List.length_filter_le _ _) (houses_short _)
theorem aborts_short (d:Int) (l:List Pt):(abortsE d l).length ≤ 3:=by
 unfold abortsE
 rw [List.length_map]
 exact houses_short _
theorem flat_short {α β:Type} {f:α→List β} {b:Nat} (hf:∀ x,(f x).length ≤ b):∀ (l:List α),(l.flatMap f).length ≤ l.length * b
 | []=>by simp
 | x :: l=>by
  rw [List.flatMap_cons,List.length_append,List.length_cons,Nat.add_mul,Nat.one_mul]
  have:=hf x
  have:=flat_short hf l
  omega
structure HGo where
 opn:List Opn
 recs:List Rc
 says:List Ms
 known:Bool
def hgoStep (m:Ms) (s:HGo) (o:Opn):HGo:=
 if o.deed = m.deed∧s.known = false then ⟨s.opn ++ (hearO o m).1,(hearO o m).2.1,(hearO o m).2.2,true⟩ else { s with opn:=s.opn ++ [o] }
def hgo (m:Ms) (l:List Opn):HGo:=l.foldl (hgoStep m) ⟨[],[],[],false⟩
theorem hgo_next (m:Ms) {l:List Opn} {j:Nat} (h:j < l.length):hgo m (l.take (j + 1)) = hgoStep m (hgo m (l.take j)) l[j]:=by
 unfold hgo
 rw [List.take_succ_eq_append_getElem h,List.foldl_append];rfl
theorem hgo_known (m:Ms):∀ (l:List Opn) (s:HGo),s.known = true→l.foldl (hgoStep m) s = { s with opn:=s.opn ++ l }
 | [],s,_=>by simp
 | o :: l,s,h=>by
  rw [List.foldl_cons]
  have e:hgoStep m s o = { s with opn:=s.opn ++ [o] }:=by unfold hgoStep;rw [if_neg (by rw [h];simp)]
  rw [e,hgo_known m l { s with opn:=s.opn ++ [o] } h]
  simp
theorem hgo_all (m:Ms):∀ (l:List Opn) (p:List Opn),l.foldl (hgoStep m) ⟨p,[],[],false⟩ = match hearL m l with
  | none=>⟨p ++ l,[],[],false⟩
  | some x=>⟨p ++ x.1,x.2.1,x.2.2,true⟩
 | [],p=>by simp [hearL]
 | o :: l,p=>by
  rw [List.foldl_cons,hearL]
  by_cases hd:o.deed = m.deed
  ·have e:hgoStep m ⟨p,[],[],false⟩ o = ⟨p ++ (hearO o m).1,(hearO o m).2.1,(hearO o m).2.2,true⟩:=by unfold hgoStep;rw [if_pos ⟨hd,rfl⟩]
   rw [e,hgo_known m l ⟨p ++ (hearO o m).1,(hearO o m).2.1,(hearO o m).2.2,true⟩ rfl,if_pos hd]
   simp
  ·have e:hgoStep m ⟨p,[],[],false⟩ o = ⟨p ++ [o],[],[],false⟩:=by unfold hgoStep;rw [if_neg (fun h=>hd h.1)]
   rw [e,hgo_all m l,if_neg hd]
   cases hearL m l with
   | none=>simp
   | some x=>simp
theorem hgo_hear (h:Hd) (m:Ms):hHearH h m = { h with opn:=(hgo m h.opn).opn,log:=h.log ++ (hgo m h.opn).recs }∧hHearM h m = (if (hgo m h.opn).known = false∧m.kind = 7 then [⟨5,m.deed,m.house,[]⟩] else (hgo m h.opn).says):=by
 have e:=hgo_all m h.opn []
 unfold hHearH hHearM hgo
 rw [e]
 cases hearL m h.opn with
 | none=>simp
 | some x=>simp
theorem hgo_len (m:Ms):∀ (l:List Opn) (s:HGo),(l.foldl (hgoStep m) s).opn.length ≤ s.opn.length + l.length
 | [],s=>by simp
 | o :: l,s=>by
  rw [List.foldl_cons]
  have h1:=hgo_len m l (hgoStep m s o)
  have h2:(hgoStep m s o).opn.length ≤ s.opn.length + 1:=by
   unfold hgoStep
   split
   ·have:(hearO o m).1.length ≤ 1:=by
     unfold hearO
     split
     ·split <;> simp
     ·split
      ·simp
      ·split
       ·split <;> simp
       ·split <;> simp
    show (s.opn ++ _).length ≤ _
    rw [List.length_append];omega
   ·show (s.opn ++ _).length ≤ _
    simp
  rw [List.length_cons];omega
theorem wp_store_part {P:Program} {ty:TypeId} {w:World} {o:Oper} {a:Act} {K:Act→World→Prop} {Q:Exit→Act→World→Prop} (d s:Operand) (ho:o.op = .store ty d s)
  {g p:Nat} {t:TypeId} {old cells new:Array Value} (hd:a.eval d = .pointer (some ⟨g,p,none⟩)) (hs:a.eval s = .agg cells) (hrow:w.heap[g]? = some (.cells old t (0,0)))
  (hi:(P.info? ty).map (·.size) = some cells.size) (hos:p + cells.size ≤ old.size) (h1:cells.toList.all (·.oneCell') = true) (hnew:(old.toList.take p ++ cells.toList ++ old.toList.drop (p + cells.size)).toArray = new)
  (h:∀ w',w'.heap[g]? = some (.cells new t (0,0))→w.grownBy w' (some g)→K (a.put o.dst undef) w'):o.wp P a w K Q:=by
 have hr:=run_storeCells_at (P:=P) g p t cells.toList 0 old w hrow (by simpa using hos) (fun v hv=>by simpa using List.all_eq_true.1 h1 v hv)
 simp only [Nat.add_zero,Array.length_toList] at hr
 rw [hnew] at hr
 have hr2:(storeVar ty ⟨g,p,none⟩ (.agg cells)).run P w = .ok () (w.setRow g new):=by
  cases hq:P.info? ty with
  | none=>simp [hq] at hi
  | some q=>
   have hs:cells.size = q.size:=by simp [hq] at hi;omega
   simp [storeVar,sizeOf,typeInfo,hq,Value.cells,hs] at hr ⊢
   exact hr
 unfold Oper.wp execOp
 simp only [ho,hd,hs,Instr.storeAt,Instr.sureAddr,Sem.run_bind,Sem.run_pure,Result.andThen_ok,hr2]
 exact h _ (setRow_heap w g old new t _ hrow) ⟨rfl,rfl,rfl,by simp [World.setRow],fun k hk hne=>by
  simp only [World.setRow]
  rw [Array.getElem?_modify]
  rw [if_neg (fun e=>hne (by rw [e]))]⟩
theorem wpList_store_part {P:Program} {ty:TypeId} {ops:Array Oper} {rest:List Oper} {w:World} {o:Oper} {a:Act} {Q:Exit→Act→World→Prop} (hgd:o.guard = none) (d s:Operand) (ho:o.op = .store ty d s)
  {g p:Nat} {t:TypeId} {old cells new:Array Value} (hd:a.eval d = .pointer (some ⟨g,p,none⟩)) (hs:a.eval s = .agg cells) (hrow:w.heap[g]? = some (.cells old t (0,0)))
  (hi:(P.info? ty).map (·.size) = some cells.size) (hos:p + cells.size ≤ old.size) (h1:cells.toList.all (·.oneCell') = true) (hnew:(old.toList.take p ++ cells.toList ++ old.toList.drop (p + cells.size)).toArray = new)
  (h:∀ w',w'.heap[g]? = some (.cells new t (0,0))→w.grownBy w' (some g)→wpList P ops Q rest (a.put o.dst undef) w'):wpList P ops Q (o :: rest) a w:=
 wpList_plain hgd fun _ hK=>wp_store_part d s ho hd hs hrow hi hos h1 hnew fun w' a b=>hK _ _ (h w' a b)
theorem wp_store_cell {P:Program} {ty:TypeId} {w:World} {o:Oper} {a:Act} {K:Act→World→Prop} {Q:Exit→Act→World→Prop} (d s:Operand) (ho:o.op = .store ty d s)
  {g p:Nat} {t:TypeId} {old new:Array Value} {v:Value} (hd:a.eval d = .pointer (some ⟨g,p,none⟩)) (hs:a.eval s = v) (hv:v.cells = [v].toArray) (hrow:w.heap[g]? = some (.cells old t (0,0)))
  (hi:(P.info? ty).map (·.size) = some 1) (hos:p + 1 ≤ old.size) (h1:v.oneCell' = true) (hnew:(old.toList.take p ++ [v] ++ old.toList.drop (p + 1)).toArray = new)
  (h:∀ w',w'.heap[g]? = some (.cells new t (0,0))→w.grownBy w' (some g)→K (a.put o.dst undef) w'):o.wp P a w K Q:=by
 have hr:=run_storeCells_at (P:=P) g p t [v] 0 old w hrow (by simpa using hos) (fun u hu=>by rw [List.mem_singleton.1 hu];exact h1)
 simp only [Nat.add_zero,List.length_singleton] at hr
 rw [hnew] at hr
 have hr2:(storeVar ty ⟨g,p,none⟩ v).run P w = .ok () (w.setRow g new):=by
  cases hq:P.info? ty with
  | none=>simp [hq] at hi
  | some q=>
   have hs:1 = q.size:=by simp [hq] at hi;omega
   simp [storeVar,sizeOf,typeInfo,hq,hv,← hs] at hr ⊢
   exact hr
 unfold Oper.wp execOp
 simp only [ho,hd,hs,Instr.storeAt,Instr.sureAddr,Sem.run_bind,Sem.run_pure,Result.andThen_ok,hr2]
 exact h _ (setRow_heap w g old new t _ hrow) ⟨rfl,rfl,rfl,by simp [World.setRow],fun k hk hne=>by
  simp only [World.setRow]
  rw [Array.getElem?_modify]
  rw [if_neg (fun e=>hne (by rw [e]))]⟩
theorem cells6 {w:World} {B:Nat} {a b c d e f:Value} {t:TypeId} (h:w.heap[B]? = some (.cells #[a,b,c,d,e,f] t (0,0))) :
  w.cell? ⟨B,0,none⟩ = some a∧w.cell? ⟨B,1,none⟩ = some b∧w.cell? ⟨B,2,none⟩ = some c∧w.cell? ⟨B,3,none⟩ = some d∧w.cell? ⟨B,4,none⟩ = some e∧w.cell? ⟨B,5,none⟩ = some f:=by
 simp [World.cell?,h]
theorem send_map (net ms:List Ms):sendB (net.map bytesM) ms = (sendA net ms).map bytesM:=by
 unfold sendB sendA
 rw [List.map_append,List.length_map]
theorem WI.right {n:Nat} {G:Reg} {x:AW} (i:WI n G x):∀ m ∈ x.net,wrongM m = 0:=fun m hm=>right_m.2 (i.net m hm).right
theorem WI.says {n:Nat} {G:Reg} {hd:Hd} {hs:List Hs} {ms:List Ms} (h:∀ m ∈ ms,MOk n G hd hs m):∀ m ∈ ms,wrongM m = 0:=fun m hm=>right_m.2 (h m hm).right
theorem erase_map (net:List Ms) (k:Nat):(net.map bytesM).take k ++ (net.map bytesM).drop (k + 1) = (net.eraseIdx k).map bytesM:=by
 rw [List.eraseIdx_eq_take_drop_succ,List.map_append,List.map_take,List.map_drop]
theorem HI.keys {G:Reg} {D:List Rd} {k:Int} {h:Hs} (i:HI G D k h):∀ r ∈ h.log,KeysOk r.parts:=fun r hr=>by
 have h2:=of_decide_eq_true (i.log r hr)
 by_cases hp:r.parts = []
 ·rw [hp];intro p hp;simp at hp
 ·exact wrong_keys (h2.2.1 hp)
theorem houses_ok (l:List Pt):∀ x ∈ housesE l,I64 x:=fun x hx=>by
 have h:=(List.mem_filter.1 hx).1
 simp only [List.mem_cons,List.not_mem_nil,or_false] at h
 rcases h with rfl | rfl | rfl <;> (unfold I64;decide)
theorem ints_of {w:World} {base:Nat} {e:TypeId} {v:Value} {l:List Int} (h:w.ownsRow base e 1 v l.length (l.flatMap intCell)) (hok:∀ x ∈ l,I64 x):Sl Ty.int w.cell? v l:=(OwnC.ints (c:=w.cell?) h hok).sl (by decide) (Sub.refl _)
set_option maxRecDepth 100000 in
set_option maxHeartbeats 2000000 in
theorem ref_aborts {v:Value} {o:Opn} (w:World) (hv:Of Ty.opn w.cell? v o) (hm:o.parts.length * 24 ≤ 140737488355328) :
  Calls Try.prog 153 #[v] w fun e w'=>∃ v',e = .returned v'∧OwnC Ty.ms (fun _=>none) w' w.heap.size 39 v' (abortsE o.deed o.parts)∧Grow w w':=by
 obtain ⟨ap,cp,ah,ch,rfl⟩:=hv.opn_form
 obtain ⟨hid,hp,hh⟩:=hv.opn_parts
 have HHO:=Lib.hid (fun (W:World) (hW:Grow w W)=>ref_houses W (hp.mono hW.sub) hm)
 have HID:=Lib.hid hid
 clear hv hp hh hid
 have R1:=Lib.hid (row_new w (.cells #[.int .i64 o.deed,.slice ap o.parts.length cp,.bool o.dec,.slice ah o.heard.length ch] 136))
 go_enter Try.func153,Try.ntmps153
 go_wp2_with fail
 refine (HHO.out _ ((Grow.refl w).alloc _)).mono ?_
 rintro e w1 ⟨v1,rfl,ho1,hb1⟩
 obtain ⟨a1,c1,rfl⟩:=owns_form ho1
 have hix:=ints_of ho1 (houses_ok o.parts)
 have R2:=Lib.hid (row_grow R1.out hb1)
 have G1:=Lib.hid (((Grow.refl w).alloc (.cells #[.int .i64 o.deed,.slice ap o.parts.length cp,.bool o.dec,.slice ah o.heard.length ch] 136)).trans hb1)
 have HL:=Lib.hid (houses_short o.parts)
 have HAE:Hid ((housesE o.parts).map (fun n=>(⟨5,o.deed,n,[]⟩:Ms)) = abortsE o.deed o.parts):=Lib.hid rfl
 clear ho1 hb1
 generalize housesE o.parts = hs at *
 obtain ⟨a1',c1',he1,-,-,-,hel⟩:=hix
 obtain ⟨rfl,rfl⟩:a1 = a1'∧c1 = c1':=by simpa using he1
 clear he1
 go_wp2
 go_loopw [3,10] (fun s3 i wr=>∃ k:Nat,k ≤ hs.length∧i = .int .i64 k∧Grow w1 wr∧OwnC Ty.ms (fun _=>none) wr w1.heap.size 39 s3 ((hs.take k).map fun n=>(⟨5,o.deed,n,[]⟩:Ms))) (fun _ i _=>hs.length - (intOf i).toNat)
 case atStart=>exact ⟨0,by omega,rfl,Grow.refl _,OwnC.nil _ _ _ _ _⟩
 case round=>
  obtain ⟨k,hk',rfl,hb,hown⟩:=hrel
  have hl3:=HL.out
  by_cases hlt:k < hs.length
  ·have HTK:=Lib.hid (map_next (fun n=>(⟨5,o.deed,n,[]⟩:Ms)) hlt)
   have HLK:=Lib.hid (show ((hs.take k).map fun n=>(⟨5,o.deed,n,[]⟩:Ms)).length ≤ 3 by simp;omega)
   obtain ⟨bx,ox,rfl,x0,hni⟩:=intAt hel k hlt
   replace x0:=hb.sub _ _ x0
   have HNI:=Lib.hid hni
   have HOWN:=Lib.hid hown
   have HB:=Lib.hid hb
   obtain ⟨av,cv,rfl⟩:=hown.form
   obtain ⟨r0,r1,r2,r3⟩:=cells4 (row_grow R2.out hb)
   have z1:w.heap.size < wr.heap.size:=(Array.getElem?_eq_some_iff.1 (row_grow R2.out hb)).1
   clear hown hb hel hni
   generalize hs[k] = n at *
   generalize (hs.take k).map (fun n=>(⟨5,o.deed,n,[]⟩:Ms)) = ms at *
   go_wp2_with (first | (at_builtin;refine wpList_appc (c:=fun _=>none) (base:=w1.heap.size) (l:=ms) (m:=[⟨5,o.deed,n,[]⟩]) ei_ms rfl one_Tms (by decide) rfl (.tmp 14) (.tmp 19) rfl rfl ?own rfl (Src.of_new (T:=Ty.ms) (x:=⟨5,o.deed,n,[]⟩) (cs:=#[.int .i64 5,.int .i64 o.deed,.int .i64 n,.slice none 0 0]) ⟨_,rfl,(show I64 5 from by unfold I64;decide),HID.out,HNI.out,Sl.nil _ _⟩ _ _ ?d1) ?d2 ?d3 ?_))
   case own=>exact HOWN.out.grow ((Grow.refl _).alloc _)
   case d1=>simp
   case d2=>have:=HLK.out;simp;omega
   case d3=>have:=HB.out.size;simp;omega
   intro a9 c9 w9 ho9 hg9 hb9
   have HG9:Hid (Grow w1 w9):=Lib.hid (grow_by (w0:=w1) (HB.out.alloc _) hg9 (fun q hq=>(HOWN.out.lt q hq).1))
   have HO9:=Lib.hid ho9
   clear ho9 hg9 hb9
   go_wp2
   go_roundw
   case rel=>exact ⟨k + 1,by omega,by go_num,HG9.out,by rw [HTK.out];exact HO9.out⟩
   case measure=>simp [intOf];omega
  ·have HOWN:=Lib.hid hown
   have HB:=Lib.hid hb
   clear hown hb hel
   go_wp2
   go_ret
   have h9:=HOWN.out
   rw [List.take_of_length_le (by omega),HAE.out] at h9
   exact ⟨_,rfl,h9.base G1.out.size,G1.out.trans HB.out⟩
theorem fr_low {w w1 W:World} {X:List (Option Nat)} (h:w.heap.size ≤ w1.heap.size):Sub (fr w1 W X) (fr w W X):=fun a v e=>by
 unfold fr at e
 split at e
 ·cases e
 ·rename_i hn
  rw [fr_new (by have h1:¬ a.block < w1.heap.size:=fun hx=>hn (.inl hx);omega) (fun hx=>hn (.inr hx))]
  exact e
theorem of_ok {l:List Pt} (h:PtsOk l) (n:Int):PtsOk (ofL l n):=fun p hp=>h p (List.mem_filter.1 hp).1
abbrev askQ (o:Opn) (n:Int):Bool:=!decide (n ∈ o.heard)
set_option maxRecDepth 100000 in
set_option maxHeartbeats 2000000 in
theorem ref_asks {v:Value} {o:Opn} (w:World) (hv:Of Ty.opn w.cell? v o) (hm:o.parts.length * 24 ≤ 140737488355328) :
  Calls Try.prog 155 #[v] w fun e w'=>∃ v',e = .returned v'∧OwnC Ty.ms (fr w w' [v'.ownBlock]) w' w.heap.size 39 v' (asksE o)∧Grow w w':=by
 obtain ⟨ap,cp,ah,ch,rfl⟩:=hv.opn_form
 obtain ⟨hid,hp,hh⟩:=hv.opn_parts
 have HHO:=Lib.hid (fun (W:World) (hW:Grow w W)=>ref_houses W (hp.mono hW.sub) hm)
 have HOF:=Lib.hid (fun (n:Int) (W:World) (hW:Grow w W)=>ref_of (n:=n) W (hp.mono hW.sub) hm)
 have HIN:=Lib.hid (fun (n:Int) (W:World) (hW:Grow w W)=>ref_in (n:=n) W (hh.mono hW.sub))
 have HPK:=Lib.hid (Pts.ok hp)
 have HID:=Lib.hid hid
 clear hv hp hh hid
 have R1:=Lib.hid (row_new w (.cells #[.int .i64 o.deed,.slice ap o.parts.length cp,.bool o.dec,.slice ah o.heard.length ch] 136))
 go_enter Try.func155,Try.ntmps155
 go_wp2_with fail
 refine (HHO.out _ ((Grow.refl w).alloc _)).mono ?_
 rintro e w1 ⟨v1,rfl,ho1,hb1⟩
 obtain ⟨a1,c1,rfl⟩:=owns_form ho1
 have hix:=ints_of ho1 (houses_ok o.parts)
 have R2:=Lib.hid (row_grow R1.out hb1)
 have G1:=Lib.hid (((Grow.refl w).alloc (.cells #[.int .i64 o.deed,.slice ap o.parts.length cp,.bool o.dec,.slice ah o.heard.length ch] 136)).trans hb1)
 have HL:=Lib.hid (houses_short o.parts)
 have HAE:Hid (((housesE o.parts).filter (askQ o)).map (commitM o) = asksE o):=Lib.hid rfl
 clear ho1 hb1
 generalize housesE o.parts = hs at *
 obtain ⟨a1',c1',he1,-,-,-,hel⟩:=hix
 obtain ⟨rfl,rfl⟩:a1 = a1'∧c1 = c1':=by simpa using he1
 clear he1
 go_wp2
 go_loopw [3,10] (fun s3 i wr=>∃ k:Nat,k ≤ hs.length∧i = .int .i64 k∧Grow w1 wr∧OwnC Ty.ms (fr w1 wr [s3.ownBlock]) wr w1.heap.size 39 s3 (((hs.take k).filter (askQ o)).map (commitM o))) (fun _ i _=>hs.length - (intOf i).toNat)
 case atStart=>exact ⟨0,by omega,rfl,Grow.refl _,OwnC.nil _ _ _ _ _⟩
 case round=>
  obtain ⟨k,hk',rfl,hb,hown⟩:=hrel
  have hl3:=HL.out
  by_cases hlt:k < hs.length
  ·have HTK:=Lib.hid (fmap_next (askQ o) (commitM o) hlt)
   have HLK:=Lib.hid (show (((hs.take k).filter (askQ o)).map (commitM o)).length ≤ 3 by rw [List.length_map];exact Nat.le_trans (List.length_filter_le _ _) (by simp;omega))
   obtain ⟨bx,ox,rfl,x0,hni⟩:=intAt hel k hlt
   replace x0:=hb.sub _ _ x0
   have HNI:=Lib.hid hni
   have HOWN:=Lib.hid hown
   have HB:=Lib.hid hb
   have GW:=Lib.hid (G1.out.trans hb)
   have RR:=Lib.hid (row_grow R2.out hb)
   obtain ⟨av,cv,rfl⟩:=hown.form
   obtain ⟨r0,r1,r2,r3⟩:=cells4 RR.out
   have z1:w.heap.size < wr.heap.size:=(Array.getElem?_eq_some_iff.1 RR.out).1
   clear hown hb hel hni
   generalize hs[k] = n at *
   generalize ((hs.take k).filter (askQ o)).map (commitM o) = ms at *
   go_wp2_with fail
   refine (HIN.out n _ GW.out).mono ?_
   rintro e w2 ⟨rfl,hb2⟩
   have G2:=Lib.hid (GW.out.trans hb2)
   have HB2:=Lib.hid (HB.out.trans hb2)
   have R5:=Lib.hid (row_grow RR.out hb2)
   have HO2:=Lib.hid ((HOWN.out.mono (fr_grow hb2)).grow hb2)
   clear hb2 r0 r1 r2 r3 z1 x0
   obtain ⟨r0,r1,r2,r3⟩:=cells4 R5.out
   have z1:w.heap.size < w2.heap.size:=(Array.getElem?_eq_some_iff.1 R5.out).1
   by_cases hq:n ∈ o.heard
   ·have hqb:decide (n ∈ o.heard) = true:=decide_eq_true hq
    have HT:=Lib.hid HTK.out
    rw [if_neg (by show ¬ askQ o n = true;simp [askQ,hq])] at HT
    rw [hqb]
    clear hq
    go_wp2
    go_roundw
    case rel=>exact ⟨k + 1,by omega,by go_num,HB2.out,by rw [HT.out];exact HO2.out⟩
    case measure=>simp [intOf];omega
   ·have hqb:decide (n ∈ o.heard) = false:=decide_eq_false hq
    have HT:=Lib.hid HTK.out
    rw [if_pos (by show askQ o n = true;simp [askQ,hq])] at HT
    rw [hqb]
    clear hq
    by_cases hd:o.dec = true
    ·have HCM:Hid (commitM o n = ⟨4,o.deed,n,[]⟩):=Lib.hid (by unfold commitM;rw [if_pos hd])
     rw [HCM.out] at HT
     rw [hd] at r2
     clear hd
     go_wp2_with (first | (at_builtin;refine wpList_appc (c:=fr w1 w2 [(Value.slice av ms.length cv).ownBlock]) (base:=w1.heap.size) (l:=ms) (m:=[⟨4,o.deed,n,[]⟩]) ei_ms rfl one_Tms (by decide) rfl (.tmp 33) (.tmp 38) rfl rfl ?own rfl (Src.of_new (T:=Ty.ms) (x:=⟨4,o.deed,n,[]⟩) (cs:=#[.int .i64 4,.int .i64 o.deed,.int .i64 n,.slice none 0 0]) ⟨_,rfl,(show I64 4 from by unfold I64;decide),HID.out,HNI.out,Sl.nil _ _⟩ _ _ ?d1) ?d2 ?d3 ?_))
     case own=>exact HO2.out.grow ((Grow.refl _).alloc _)
     case d1=>simp
     case d2=>have:=HLK.out;simp;omega
     case d3=>have:=HB2.out.size;simp;omega
     intro a9 c9 w9 ho9 hg9 hb9
     have HG9:Hid (Grow w1 w9):=Lib.hid (grow_by (w0:=w1) (HB2.out.alloc _) hg9 (fun q hq=>(HOWN.out.lt q hq).1))
     have HO9:=Lib.hid ((ho9.mono (fr_grow ((Grow.refl w2).alloc (.cells #[.int .i64 4,.int .i64 o.deed,.int .i64 n,.slice none 0 0] 39)))).mono (fr_app hg9 (hb9.imp_right fun ⟨g,e,hge⟩=>⟨g,e,by simpa using hge⟩)))
     clear ho9 hg9 hb9
     go_wp2
     go_roundw
     case rel=>exact ⟨k + 1,by omega,by go_num,HG9.out,by rw [HT.out];exact HO9.out⟩
     case measure=>simp [intOf];omega
    ·have hd':o.dec = false:=by simpa using hd
     have HCM:Hid (commitM o n = ⟨1,o.deed,n,ofL o.parts n⟩):=Lib.hid (by unfold commitM;rw [if_neg hd])
     rw [HCM.out] at HT
     rw [hd'] at r2
     clear hd hd'
     have HOK:=Lib.hid (of_ok HPK.out n)
     have HS:Hid (∀ W,Grow w2 W→W.cell? ⟨w.heap.size,0,none⟩ = some (.int .i64 o.deed)∧W.cell? ⟨w.heap.size,1,none⟩ = some (.slice ap o.parts.length cp)):=fun W hW=>⟨hW.sub _ _ r0,hW.sub _ _ r1⟩
     go_upto_region 5 with fail
     refine but_start (fun w'=>w'.cell? ⟨w.heap.size,0,none⟩ = some (.int .i64 o.deed)∧w'.cell? ⟨w.heap.size,1,none⟩ = some (.slice ap o.parts.length cp)) 11 (by kernel_rfl) ?_
     obtain ⟨wd,hWd⟩:∃ x:World,x = w2.drew:=⟨_,rfl⟩
     rw [← hWd]
     have GD:Grow w2 wd:=by rw [hWd];exact (Grow.refl _).drew
     have zD:w2.heap.size = wd.heap.size:=by rw [hWd];rfl
     have ZD:=Lib.hid zD
     clear hWd zD
     refine bLm [0] 14 (by kernel_rfl) (fun _ _ _ _ _ h=>h) (HS.out _ GD) ?_
     repeat (refine tNm (v:=?_) rfl (by rfl) ?_ ?_;rotate_left;(· (intro w' hSw;(try dsimp only at hSw);obtain ⟨hs0,hs1⟩:=hSw;go_simp <;> with_reducible rfl));try simp only [Act.put,lzA,lzC,lzD,lzE,lzF])
     refine tEm ?_
     refine bLm [1,2,3,4,5,6] 14 (by kernel_rfl) (fun _ _ _ _ _ h=>h) (HS.out _ GD) ?_
     repeat (refine tNm (v:=?_) rfl (by rfl) ?_ ?_;rotate_left;(· (intro w' hSw;(try dsimp only at hSw);obtain ⟨hs0,hs1⟩:=hSw;go_simp <;> with_reducible rfl));try simp only [Act.put,lzA,lzB,lzC,lzD,lzE,lzF])
     refine tEm ?_
     refine bO 7 (by kernel_rfl) rfl ?_
     intro K HK
     try simp only [lzA,lzB,lzC]
     go_simp
     go_at_call 83
     refine (HOF.out n _ (G2.out.trans GD)).mono ?_
     rintro e5 w5 ⟨v5,rfl,ho5,hb5⟩
     obtain ⟨a5,c5,rfl⟩:=owns_form ho5
     have HO5:=Lib.hid ho5
     have G5:=Lib.hid (Grow.trans GD hb5)
     have ZD5:=Lib.hid (GD).size
     clear ho5 hb5
     generalize ofL o.parts n = pl at *
     refine HK.out _ _ ⟨fun _=>HS.out _ G5.out,?_⟩
     clear HK K
     try simp only [Act.put,lzA,lzB,lzC,lzD,lzE,lzF]
     refine bO 8 (by kernel_rfl) rfl ?_
     intro K HK
     try simp only [lzA,lzB,lzC]
     go_simp
     refine HK.out _ _ ⟨fun _=>HS.out _ G5.out,?_⟩
     clear HK K
     try simp only [Act.put,lzA,lzB,lzC,lzD,lzE,lzF]
     refine bO 9 (by kernel_rfl) rfl ?_
     intro K HK
     try simp only [lzA,lzB,lzC]
     go_simp
     obtain ⟨w6,hw6⟩:∃ y:World,y = w5.alloc (.cells #[.int .i64 1,.int .i64 o.deed,.int .i64 n,.slice a5 pl.length c5] 39):=⟨_,rfl⟩
     have G6:Hid (Grow w5 w6):=Lib.hid (by rw [hw6];exact (Grow.refl _).alloc _)
     have HG6:=Lib.hid (G5.out.trans G6.out)
     have HSR:Hid (Src Ty.ms (fr w1 w6 [(Value.slice av ms.length cv).ownBlock]) w6 (.slice (some ⟨w5.heap.size,0,none⟩) 1 1) [⟨1,o.deed,n,pl⟩]):=Lib.hid (by
      have hlt2:=HOWN.out.lt
      have hsl:Sl Ty.pt (fr w1 w6 [(Value.slice av ms.length cv).ownBlock]) (.slice a5 pl.length c5) pl:=by
       refine pts_fr (w1:=wd) (owns_grow HO5.out G6.out) HOK.out ?_ ?_
       ·have:=HB2.out.size;have:=ZD5.out;omega
       ·intro q hq
        simp only [List.mem_singleton]
        intro e
        have:=(HO2.out.lt q e.symm).2
        have:=ZD5.out
        omega
      rw [hw6] at hsl ⊢
      exact Src.of_new (T:=Ty.ms) (x:=⟨1,o.deed,n,pl⟩) (cs:=#[.int .i64 1,.int .i64 o.deed,.int .i64 n,.slice a5 pl.length c5]) ⟨_,rfl,(show I64 1 from by unfold I64;decide),HID.out,HNI.out,hsl⟩ _ _ rfl)
     rw [← hw6]
     clear hw6
     refine HK.out _ _ ⟨fun _=>HS.out _ HG6.out,?_⟩
     clear HK K
     try simp only [Act.put,lzA,lzB,lzC,lzD,lzE,lzF]
     refine bO 10 (by kernel_rfl) rfl ?_
     intro K HK
     refine wanted_go rfl ?_
     try simp only [lzA,lzB,lzC]
     refine wp_appc (c:=fr w1 w6 [(Value.slice av ms.length cv).ownBlock]) (base:=w1.heap.size) (l:=ms) (m:=[⟨1,o.deed,n,pl⟩]) (v:=.slice av ms.length cv) ei_ms rfl one_Tms (by decide) (.tmp 14) (.tmp 23) rfl rfl ((HO2.out.mono (fr_grow HG6.out)).grow HG6.out) rfl HSR.out (by have:=HLK.out;simp;omega) (by have:=HB2.out.size;have:=HG6.out.size;omega) ?_
     intro a9 c9 w9 ho9 hg9 hb9
     have HGW9:Hid (Grow w1 w9):=Lib.hid (grow_by (w0:=w1) (HB2.out.trans HG6.out) hg9 (fun q hq=>(HOWN.out.lt q hq).1))
     have HO9:=Lib.hid (ho9.mono (fr_app hg9 (hb9.imp_right fun ⟨g,e,hge⟩=>⟨g,e,hge⟩)))
     have HS9:Hid (w9.cell? ⟨w.heap.size,0,none⟩ = some (.int .i64 o.deed)∧w9.cell? ⟨w.heap.size,1,none⟩ = some (.slice ap o.parts.length cp)):=Lib.hid (by obtain ⟨k0,k1,-,-⟩:=cells4 (row_grow R2.out HGW9.out);exact ⟨k0,k1⟩)
     clear ho9 hg9 hb9
     refine HK.out _ _ ⟨fun _=>HS9.out,?_⟩
     clear HK K
     try simp only [Act.put,lzD,lzE,lzF]
     refine bO 11 (by kernel_rfl) rfl ?_
     intro K HK
     try simp only [lzA,lzB,lzC]
     go_simp
     refine HK.out _ _ ⟨fun h=>absurd rfl h,?_⟩
     clear HK K
     try simp only [Act.put,lzA,lzB,lzC,lzD,lzE,lzF]
     refine but_done (by kernel_rfl) ?_
     go_wp2
     go_roundw
     case rel=>exact ⟨k + 1,by omega,by go_num,HGW9.out,by rw [HT.out];exact HO9.out⟩
     case measure=>simp [intOf];omega
  ·have HOWN:=Lib.hid hown
   have HB:=Lib.hid hb
   clear hown hb hel
   go_wp2
   go_ret
   have h9:=HOWN.out
   rw [List.take_of_length_le (by omega),HAE.out] at h9
   exact ⟨_,rfl,(h9.mono (fr_low G1.out.size)).base G1.out.size,G1.out.trans HB.out⟩
structure KOk (h:Hd) (n:Nat):Prop where
 opn:h.opn.length ≤ n
 boot:I64 h.boot
 next:I64 h.next
theorem kok_step {h:Hd} {n:Nat} (k:KOk h n) (r:Rc):KOk (headStep h r) (n + 1):=by
 have h1:=k.opn
 unfold headStep
 split
 ·exact ⟨by show h.opn.length ≤ _;omega,wrap_ok _,k.next⟩
 ·split
  ·exact ⟨by simp;omega,k.boot,k.next⟩
  ·split
   ·exact ⟨Nat.le_trans (List.length_filter_le _ _) (by omega),k.boot,k.next⟩
   ·exact ⟨by omega,k.boot,k.next⟩
set_option maxRecDepth 100000 in
set_option maxHeartbeats 4000000 in
theorem wlog_head {v:Value} {l:List Rc} (w:World) (hv:Rcs w.cell? v l) (hm:l.length * 64 ≤ 140737488351232) (hp:∀ r ∈ l,r.parts.length * 24 ≤ 140737488355328) :
  Calls Try.prog 42 #[v] w fun e w'=>∃ v',e = .returned v'∧Of Ty.hd (ov (fun _=>none) w w') v' (headR l)∧Grow w w':=by
 have HOWN:=Lib.hid (log_own (w.alloc (.cells zhead 57)) (hv.mono ((Grow.refl w).alloc _).sub) (by omega) hp)
 have HM:=Lib.hid hm
 have HP:=Lib.hid hp
 obtain ⟨al0,cl0,rfl,-⟩:=hv
 have hlm:l.length ≤ 2199023255489:=by omega
 clear hm hp
 go_enter Try.func42,Try.ntmps42
 go_wp2_with fail
 refine HOWN.out.mono ?_
 rintro e w1 ⟨vl,rfl,hown,hb1⟩
 obtain ⟨al,cl,rfl⟩:=hown.form
 have HOW:=Lib.hid hown
 have HB1:=Lib.hid hb1
 have z1:w.heap.size + 1 ≤ w1.heap.size:=by have:=hb1.size;simpa using this
 clear hown hb1
 go_wp2
 go_loopw [12] (fun i wr=>∃ (k:Nat) (h:Hd) (vo:Value),k ≤ l.length∧i = .int .i64 k∧(l.take k).foldl headStep ⟨l,0,0,[]⟩ = h∧KBox w w1 wr (.slice al l.length cl) vo l h∧KOk h k) (fun i _=>l.length - (intOf i).toNat)
 case atStart=>
  refine ⟨0,⟨l,0,0,[]⟩,.slice none 0 0,by omega,rfl,rfl,?_,⟨by simp,zero_ok,zero_ok⟩⟩
  have hl:=HOW.out.lt
  refine ⟨row_grow (row_new w _) (HB1.out.alloc _),row_new _ _,?_,OwnC.nil _ _ _ _ _,((Grow.refl w).alloc _).trans (HB1.out.alloc _),by simp,fun k hk=>(hl k hk).2,z1⟩
  have hs0:(w.alloc (.cells zhead 57)).heap.size = w.heap.size + 1:=by simp
  have h2:=HOW.out
  rw [hs0] at h2
  refine (h2.mono fun a u e=>?_).grow ((Grow.refl _).alloc _)
  unfold fr at e
  split at e
  ·cases e
  ·rename_i hn
   have hlt:=World.block_lt_of_cell? w1 a e
   rw [hs0] at hn
   unfold kmem
   rw [fr_new (by omega)]
   ·exact ((Grow.refl w1).alloc _).sub _ _ e
   ·simp only [List.mem_cons,List.not_mem_nil,or_false,not_or]
    refine ⟨fun e=>hn (.inr (by simp [e])),by simp [Value.ownBlock],fun e=>?_,fun e=>?_⟩
    ·have:=Option.some.inj e;exact hn (.inl (by omega))
    ·have:=Option.some.inj e;omega
 case round=>
  obtain ⟨k,h,vo,hk',rfl,hfold,hbox,hok⟩:=hrel
  obtain ⟨ar,cr,rfl⟩:=hbox.opn.form
  have HFD:=Lib.hid hfold
  have HBX:=Lib.hid hbox
  have HOK0:=Lib.hid hok
  have z3:=hbox.size
  have z4:w1.heap.size < wr.heap.size:=by omega
  by_cases hlt:k < l.length
  ·obtain ⟨gl,cs,rfl,⟨vp,rfl,i0,i1,hP⟩,hA⟩:=hbox.log.get (by decide) k hlt
   have hP':=hP.mono (fr_sub _ _ _)
   obtain ⟨ap,cp,rfl,-⟩:=id hP'
   have c0:=hA 0 _ rfl
   have c1:=hA 1 _ rfl
   have c2:=hA 2 _ rfl
   simp only [Nat.add_zero,Ty.rc] at c0 c1 c2
   have htk:(l.take (k + 1)).foldl headStep ⟨l,0,0,[]⟩ = headStep h l[k]:=by rw [List.take_succ_eq_append_getElem hlt,List.foldl_append,HFD.out];rfl
   have HTK:=Lib.hid htk
   have hpl:=HP.out l[k] (List.getElem_mem _)
   have HCL:=Lib.hid (fun (W:World) (hW:Grow wr W)=>clone_pt W (hP'.mono hW.sub) hpl)
   have HI:=Lib.hid (And.intro i0 (And.intro i1 (Pts.ok (c:=wr.cell?) hP')))
   have HOK1:=Lib.hid (kok_step hok l[k])
   have HRL:Hid (h.opn.length < 2199023255489):=Lib.hid (by have:=hok.opn;omega)
   have HLT:Hid (∀ q,(Value.slice ar h.opn.length cr).ownBlock = some q→q < wr.heap.size):=fun q hq=>(hbox.opn.lt q hq).2
   clear hfold hok htk hpl hP hP' hA i0 i1 hbox
   generalize l[k] = r at *
   obtain ⟨s0,s1,s2,s3⟩:=cells4 HBX.out.row
   have sf:=row_free HBX.out.row
   by_cases k4:r.kind = 4
   ·have b4:(r.kind == 4) = true:=by simp [k4]
    have b5:(r.kind == 5) = false:=by simp [k4]
    have b6:(r.kind == 6) = false:=by simp [k4]
    have hst:headStep h r = { h with boot:=wrap64 (h.boot + 1) }:=by unfold headStep;rw [if_pos k4]
    have HFO:=Lib.hid (HTK.out.trans hst)
    have HOK:=Lib.hid (hst ▸ HOK1.out)
    clear hst k4
    have HX:=(KBox.boot HBX.out (Grow.refl wr) (wrap64 (h.boot + 1))).later ((Grow.refl _).alloc (.cells #[.int .i64 r.kind,.int .i64 r.deed,.slice ap r.parts.length cp] 48))
    go_wp2
    go_roundw
    case rel=>exact ⟨k + 1,_,_,by omega,by go_num,HFO.out,HX,HOK.out⟩
    case measure=>simp [intOf];omega
   ·have b4:(r.kind == 4) = false:=by simp [k4]
    by_cases k5:r.kind = 5
    ·have b5:(r.kind == 5) = true:=by simp [k5]
     have b6:(r.kind == 6) = false:=by simp [k5]
     have hst:headStep h r = { h with opn:=h.opn ++ [⟨r.deed,r.parts,true,[]⟩] }:=by unfold headStep;rw [if_neg k4,if_pos k5]
     have HFO:=Lib.hid (HTK.out.trans hst)
     have HOK:=Lib.hid (hst ▸ HOK1.out)
     clear hst k4 k5
     go_wp2
     obtain ⟨w2,hWE⟩:∃ x:World,x = wr.alloc (.cells #[.int .i64 r.kind,.int .i64 r.deed,.slice ap r.parts.length cp] 48):=⟨_,rfl⟩
     rw [← hWE]
     have HG2:Hid (Grow wr w2):=Lib.hid (by rw [hWE];exact (Grow.refl wr).alloc _)
     have r5:w2.heap[wr.heap.size]? = some (.cells #[.int .i64 r.kind,.int .i64 r.deed,.slice ap r.parts.length cp] 48 (0,0)):=by rw [hWE];exact row_new _ _
     have HR5:=Lib.hid r5
     clear hWE r5 s0 s1 s2 s3
     have HB2:=Lib.hid (HBX.out.later HG2.out)
     obtain ⟨s0,s1,s2,s3⟩:=cells4 HB2.out.row
     obtain ⟨q0,q1,q2⟩:=cells3 HR5.out
     have l3:w1.heap.size < w2.heap.size:=by have:=HB2.out.size;omega
     have l5:wr.heap.size < w2.heap.size:=(Array.getElem?_eq_some_iff.1 HR5.out).1
     have n3:(Value.slice ar h.opn.length cr).ownBlock ≠ some w1.heap.size:=fun e=>by have:=(HB2.out.opn.lt _ e).1;omega
     have n5:(Value.slice ar h.opn.length cr).ownBlock ≠ some wr.heap.size:=fun e=>by have:=HLT.out _ e;omega
     have HS:Hid (∀ W,w2.grownBy W (Value.slice ar h.opn.length cr).ownBlock→W.cell? ⟨w1.heap.size,3,none⟩ = some (.slice ar h.opn.length cr)∧W.cell? ⟨wr.heap.size,1,none⟩ = some (.int .i64 r.deed)∧W.cell? ⟨wr.heap.size,2,none⟩ = some (.slice ap r.parts.length cp)):=fun W hW=>⟨by rw [World.cell?_of_block (hW.block w1.heap.size l3 (fun e=>n3 e.symm))];exact s3,by rw [World.cell?_of_block (hW.block wr.heap.size l5 (fun e=>n5 e.symm))];exact q1,by rw [World.cell?_of_block (hW.block wr.heap.size l5 (fun e=>n5 e.symm))];exact q2⟩
     clear s0 s1 s2 s3 q0 q1 q2
     refine but_start (fun w'=>w'.cell? ⟨w1.heap.size,3,none⟩ = some (.slice ar h.opn.length cr)∧w'.cell? ⟨wr.heap.size,1,none⟩ = some (.int .i64 r.deed)∧w'.cell? ⟨wr.heap.size,2,none⟩ = some (.slice ap r.parts.length cp)) 11 (by kernel_rfl) ?_
     obtain ⟨wd,hWd⟩:∃ x:World,x = w2.drew:=⟨_,rfl⟩
     rw [← hWd]
     have GD:Grow w2 wd:=by rw [hWd];exact (Grow.refl _).drew
     have zD:w2.heap.size = wd.heap.size:=by rw [hWd];rfl
     have ZD:=Lib.hid zD
     clear hWd zD
     refine bLm [0] 8 (by kernel_rfl) (fun _ _ _ _ _ h=>h) (HS.out _ (grownBy_of_grow GD _)) ?_
     repeat (refine tNm (v:=?_) rfl (by rfl) ?_ ?_;rotate_left;(· (intro w' hSw;(try dsimp only at hSw);obtain ⟨hs0,hs1,hs2⟩:=hSw;go_simp <;> with_reducible rfl));try simp only [Act.put,lzA,lzC,lzD,lzE,lzF])
     refine tEm ?_
     refine bLm [1,2,3,4,5] 8 (by kernel_rfl) (fun _ _ _ _ _ h=>h) (HS.out _ (grownBy_of_grow GD _)) ?_
     repeat (refine tNm (v:=?_) rfl (by rfl) ?_ ?_;rotate_left;(· (intro w' hSw;(try dsimp only at hSw);obtain ⟨hs0,hs1,hs2⟩:=hSw;go_simp <;> with_reducible rfl));try simp only [Act.put,lzA,lzB,lzC,lzD,lzE,lzF])
     refine tEm ?_
     refine bO 6 (by kernel_rfl) rfl ?_
     intro K HK
     try simp only [lzA,lzB,lzC]
     go_simp
     go_at_call 122
     refine (HCL.out _ (HG2.out.trans GD)).mono ?_
     rintro e w3 ⟨v3,rfl,ho3,hb3⟩
     obtain ⟨a3,c3,rfl⟩:=owns_form ho3
     have HO3:=Lib.hid ho3
     have G3:=GD.trans hb3
     clear ho3 hb3
     refine HK.out _ _ ⟨fun _=>HS.out _ (grownBy_of_grow G3 _),?_⟩
     clear HK K
     try simp only [Act.put,lzA,lzB,lzC,lzD,lzE,lzF]
     refine bO 7 (by kernel_rfl) rfl ?_
     intro K HK
     try simp only [lzA,lzB,lzC]
     go_simp
     refine HK.out _ _ ⟨fun _=>HS.out _ (grownBy_of_grow G3 _),?_⟩
     clear HK K
     try simp only [Act.put,lzA,lzB,lzC,lzD,lzE,lzF]
     refine bO 8 (by kernel_rfl) rfl ?_
     intro K HK
     try simp only [lzA,lzB,lzC]
     go_simp
     refine HK.out _ _ ⟨fun _=>HS.out _ (grownBy_of_grow (G3.alloc _) _),?_⟩
     clear HK K
     try simp only [Act.put,lzA,lzB,lzC,lzD,lzE,lzF]
     refine bO 9 (by kernel_rfl) rfl ?_
     intro K HK
     refine wanted_go rfl ?_
     try simp only [lzA,lzB,lzC]
     have bA:=HB2.out.later (w':=(w3.alloc (.cells #[.int .i64 r.deed,.slice a3 r.parts.length c3,.bool true,.slice none 0 0] 136))) (G3.alloc _)
     have hR9:Ty.opn.R (kmem w w1 (w3.alloc (.cells #[.int .i64 r.deed,.slice a3 r.parts.length c3,.bool true,.slice none 0 0] 136)) (.slice (some ⟨gl,0,none⟩) l.length cl) (Value.slice ar h.opn.length cr)) (#[.int .i64 r.deed,.slice a3 r.parts.length c3,.bool true,.slice none 0 0]:Array Value).toList ⟨r.deed,r.parts,true,[]⟩:=by
      refine ⟨_,_,rfl,HI.out.2.1,pts_fr (w1:=wd) ((HO3.out).kept (grownBy_of_grow ((Grow.refl _).alloc _) none) (by cases (Value.slice a3 r.parts.length c3).ownBlock <;> simp)) HI.out.2.2 (by have:=HB2.out.grow.size;have:=GD.size;omega) fun q hq=>?_,Sl.nil _ _⟩
      have z1:=HB2.out.opn.lt
      have z2:=HB2.out.log.lt
      have z4:=HB2.out.size
      have z5:=HB2.out.w1
      have z6:=GD.size
      simp only [List.mem_cons,List.not_mem_nil,or_false,not_or]
      exact ⟨fun e=>by have:=(z2 q e.symm).2;omega,fun e=>by have:=(z1 q e.symm).2;omega,fun e=>by have:=Option.some.inj e;omega,fun e=>by have:=Option.some.inj e;omega⟩
     have HR9:=Lib.hid hR9
     have HBA:=Lib.hid bA
     clear hR9 bA
     refine wp_appc (c:=(kmem w w1 (w3.alloc (.cells #[.int .i64 r.deed,.slice a3 r.parts.length c3,.bool true,.slice none 0 0] 136)) (.slice (some ⟨gl,0,none⟩) l.length cl) (Value.slice ar h.opn.length cr))) (base:=w1.heap.size + 1) (l:=h.opn) (m:=[⟨r.deed,r.parts,true,[]⟩]) ei_opn rfl one_Topn (by decide) (.tmp 27) (.tmp 34) rfl rfl HBA.out.opn rfl (Src.of_new (T:=Ty.opn) (cs:=#[.int .i64 r.deed,.slice a3 r.parts.length c3,.bool true,.slice none 0 0]) HR9.out _ _ rfl) (by have:=HRL.out;simp;omega) HBA.out.size ?_
     intro a9 c9 w9 ho9 hg9 hb9
     have HO9:=Lib.hid ho9
     have HG9:=Lib.hid hg9
     have HB9:=Lib.hid hb9
     have GB9:=Lib.hid (grownBy_trans (grownBy_of_grow (G3.alloc _) _) hg9)
     obtain ⟨t5,-,-⟩:=HS.out _ GB9.out
     have tf:∀ o,w9.frozen? ⟨w1.heap.size,o,none⟩ = false:=row_free (row_by HBA.out.row hg9 (fun e=>n3 e.symm))
     have t9:w1.heap.size < w9.heap.size:=World.block_lt_of_cell? w9 _ t5
     clear ho9 hg9 hb9
     refine HK.out _ _ ⟨fun _=>HS.out _ GB9.out,?_⟩
     clear HK K
     try simp only [Act.put,lzD,lzE,lzF]
     refine bO 10 (by kernel_rfl) rfl ?_
     intro K HK
     try simp only [lzA,lzB,lzC]
     go_simp
     refine HK.out _ _ ⟨fun _=>HS.out _ GB9.out,?_⟩
     clear HK K
     try simp only [Act.put,lzA,lzB,lzC,lzD,lzE,lzF]
     refine bO 11 (by kernel_rfl) rfl ?_
     intro K HK
     try simp only [lzA,lzB,lzC]
     go_simp
     refine HK.out _ _ ⟨fun h=>absurd rfl h,?_⟩
     clear HK K
     try simp only [Act.put,lzA,lzB,lzC,lzD,lzE,lzF]
     refine but_done (by kernel_rfl) ?_
     have HX:=KBox.opns HB2.out (G3.alloc _) HO9.out HG9.out (HB9.out.imp_right fun ⟨g,e,hge⟩=>⟨g,e,by simpa using hge⟩)
     go_wp2
     go_roundw
     case rel=>exact ⟨k + 1,_,_,by omega,by go_num,HFO.out,HX,HOK.out⟩
     case measure=>simp [intOf];omega
    ·have b5:(r.kind == 5) = false:=by simp [k5]
     by_cases k6:r.kind = 6
     ·have b6:(r.kind == 6) = true:=by simp [k6]
      have hst:headStep h r = { h with opn:=h.opn.filter fun o=>!(o.deed == r.deed) }:=by unfold headStep;rw [if_neg k4,if_neg k5,if_pos k6]
      have HFO:=Lib.hid (HTK.out.trans hst)
      have HOK:=Lib.hid (hst ▸ HOK1.out)
      clear hst k4 k5 k6
      go_wp2_with fail
      have HG2:Hid (Grow wr (wr.alloc (.cells #[.int .i64 r.kind,.int .i64 r.deed,.slice ap r.parts.length cp] 48))):=Lib.hid ((Grow.refl wr).alloc _)
      have HB2:=Lib.hid (HBX.out.later HG2.out)
      have n3:(Value.slice ar h.opn.length cr).ownBlock ≠ some w1.heap.size:=fun e=>by have:=(HB2.out.opn.lt _ e).1;omega
      refine (deleteFunc_opn_c (p:=fun o=>o.deed == r.deed) (c:=kmem w w1 (wr.alloc (.cells #[.int .i64 r.kind,.int .i64 r.deed,.slice ap r.parts.length cp] 48)) (.slice (some ⟨gl,0,none⟩) l.length cl) (Value.slice ar h.opn.length cr)) ?_ HB2.out.opn (lhead_tells _ _ wr.heap.size r.deed _ (by rw [World.cell?_alloc_new];rfl) (by simp) (fun e=>by have:=HLT.out _ e;omega))).mono ?_
      ·intro a u e
       unfold kmem fr at e
       split at e
       ·cases e
       ·rename_i hn
        unfold frag
        rw [if_neg (fun e=>hn (.inr (by simp [e])))]
        exact e
      rintro e w7 ⟨v7,rfl,ho7,hg7,hb7⟩
      obtain ⟨a7,c7,rfl⟩:=ho7.form
      have t7:=row_by HB2.out.row hg7 (fun e=>n3 e.symm)
      have HX:=Lib.hid (KBox.opns HB2.out (Grow.refl _) ho7 hg7 (.inl hb7))
      clear s0 s1 s2 s3 sf ho7 hg7 hb7
      obtain ⟨u0,u1,u2,u3⟩:=cells4 t7
      have uf:=row_free t7
      have u9:w1.heap.size < w7.heap.size:=(Array.getElem?_eq_some_iff.1 t7).1
      clear t7
      go_wp2
      go_roundw
      case rel=>exact ⟨k + 1,_,_,by omega,by go_num,HFO.out,HX.out,HOK.out⟩
      case measure=>simp [intOf];omega
     ·have b6:(r.kind == 6) = false:=by simp [k6]
      have hst:headStep h r = h:=by unfold headStep;rw [if_neg k4,if_neg k5,if_neg k6]
      have HFO:=Lib.hid (HTK.out.trans hst)
      have HOK:=Lib.hid (hst ▸ HOK1.out)
      clear hst k4 k5 k6
      go_wp2
      go_roundw
      case rel=>exact ⟨k + 1,_,_,by omega,by go_num,HFO.out,HBX.out.later ((Grow.refl wr).alloc _),HOK.out⟩
      case measure=>simp [intOf];omega
  ·have HH:Hid (h = headR l):=by show h = _;rw [← HFD.out,List.take_of_length_le (by omega)];rfl
   obtain ⟨s0,s1,s2,s3⟩:=cells4 hbox.row
   clear hfold hok hbox
   go_wp2_with (first | (refine wpList_store_row rfl (.tmp 2) (.tmp 45) rfl rfl rfl HBX.out.res info_hd rfl rfl ?_))
   intro wf r2 g2
   obtain ⟨p0,p1,p2,p3⟩:=cells4 r2
   have pf:=row_free r2
   clear s0 s1 s2 s3
   go_wp2
   refine bodyPost_ret (v:=.agg #[.slice al l.length cl,.int .i64 h.boot,.int .i64 h.next,.slice ar h.opn.length cr]) (by simp [results,Try.results42,go_sem,p0,p1,p2,p3]) rfl ?_
   have hlog:h.log = l:=by rw [HH.out];exact (headR_next l).2
   have sub:Sub (kmem w w1 wr (.slice al l.length cl) (.slice ar h.opn.length cr)) (ov (fun _=>none) w wf):=fun a u e=>by
    unfold kmem fr at e
    split at e
    ·cases e
    ·rename_i hn
     have hne:a.block ≠ w.heap.size:=fun e=>hn (.inr (by simp [e]))
     rw [ov_new (by omega),by_cell g2 (World.block_lt_of_cell? wr a e) hne]
     exact e
   have hb:∀ k,w.heap.size + 1 ≤ k→k < wr.heap.size→wf.heap[k]? = wr.heap[k]?:=fun k h1 h2=>g2.block k h2 (by simp;omega)
   have hw1:=HBX.out.w1
   have e1:=((HBX.out.log.mono sub).block fun k hk=>hb k (HBX.out.log.lt k hk).1 (HBX.out.log.lt k hk).2).slc (by decide) (Sub.refl _) fun a ha=>ov_new (by omega)
   have e2:=((HBX.out.opn.mono sub).block fun k hk=>hb k (by have:=(HBX.out.opn.lt k hk).1;omega) (HBX.out.opn.lt k hk).2).slc (by decide) (Sub.refl _) fun a ha=>ov_new (by omega)
   rw [← HH.out]
   refine ⟨_,rfl,⟨_,rfl,_,_,rfl,?_,HOK0.out.boot,HOK0.out.next,e2⟩,HBX.out.grow.grown g2 (fun k hk=>by simp at hk;omega)⟩
   rw [hlog];exact e1
def keepO (r:Rc) (o:Opn):Bool:=!(r.kind == 6 && o.deed == r.deed)
theorem keep_all {r:Rc} (h:¬ r.kind = 6) (l:List Opn):l.filter (keepO r) = l:=by
 rw [List.filter_eq_self]
 intro o _
 simp [keepO,h]
theorem keep_six {r:Rc} (h:r.kind = 6) (l:List Opn):l.filter (keepO r) = l.filter fun o=>!(o.deed == r.deed):=by
 refine List.filter_congr fun o _=>?_
 simp [keepO,h]
theorem filter_take_next (q:Opn→Bool) {l:List Opn} {j:Nat} (h:j < l.length):(l.take (j + 1)).filter q = if q l[j] = true then (l.take j).filter q ++ [l[j]] else (l.take j).filter q:=by
 rw [List.take_succ_eq_append_getElem h,List.filter_append]
 by_cases hq:q l[j] = true <;> simp [hq]
structure RBox (c:CM) (w wr:World) (vl vo:Value) (h:Hd):Prop where
 res:wr.heap[w.heap.size]? = some (.cells zhead 57 (0,0))
 row:wr.heap[w.heap.size + 1]? = some (.cells #[vl,.int .i64 h.boot,.int .i64 h.next,vo] 57 (0,0))
 opn:OwnC Ty.opn c wr (w.heap.size + 2) 136 vo h.opn
 grow:Grow w wr
 size:w.heap.size + 2 ≤ wr.heap.size
theorem RBox.later {c:CM} {w wr w':World} {vl vo:Value} {h:Hd} (b:RBox c w wr vl vo h) (hg:Grow wr w'):RBox c w w' vl vo h:=
 ⟨row_grow b.res hg,row_grow b.row hg,b.opn.grow hg,b.grow.trans hg,Nat.le_trans b.size hg.size⟩
theorem RBox.opns {c:CM} {w wr w':World} {vl vo vo':Value} {h:Hd} {os:List Opn} {row:Option Nat} (b:RBox c w wr vl vo h) (hg:wr.grownBy w' row) (hr:∀ k,row = some k→w.heap.size + 2 ≤ k) (ho:OwnC Ty.opn c w' (w.heap.size + 2) 136 vo' os) :
  RBox c w (w'.setCell ⟨w.heap.size + 1,3,none⟩ vo') vl vo' { h with opn:=os }:=by
 have hs:=b.size
 have hB:∀ k,k ≠ w.heap.size + 1→(w'.setCell ⟨w.heap.size + 1,3,none⟩ vo').heap[k]? = w'.heap[k]?:=fun k hk=>Below.heap_setCell _ _ _ _ (fun e=>hk e)
 refine ⟨?_,row_set4_3 (row_by b.row hg (fun e=>by have:=hr _ e.symm;omega)) _,ho.block fun k hk=>hB k (by have:=(ho.lt k hk).1;omega),(b.grow.grown hg (fun k hk=>by have:=hr k hk;omega)).setCell (by simp) _,?_⟩
 ·rw [hB _ (by omega)];exact row_by b.res hg (fun e=>by have:=hr _ e.symm;omega)
 ·have:=hg.size;simp;omega
theorem RBox.boot {c:CM} {w wr:World} {vl vo:Value} {h:Hd} (b:RBox c w wr vl vo h) (x:Int):RBox c w (wr.setCell ⟨w.heap.size + 1,1,none⟩ (.int .i64 x)) vl vo { h with boot:=x }:=by
 have hs:=b.size
 have hB:∀ k,k ≠ w.heap.size + 1→(wr.setCell ⟨w.heap.size + 1,1,none⟩ (.int .i64 x)).heap[k]? = wr.heap[k]?:=fun k hk=>Below.heap_setCell _ _ _ _ (fun e=>hk e)
 exact ⟨by rw [hB _ (by omega)];exact b.res,row_set4_1 b.row _,b.opn.block fun k hk=>hB k (by have:=(b.opn.lt k hk).1;omega),b.grow.setCell (by simp) _,by simpa using b.size⟩
set_option maxRecDepth 100000 in
set_option maxHeartbeats 4000000 in
theorem ref_head {c:CM} {v:Value} {l:List Rc} (w:World) (hc:Sub c w.cell?) (hv:Rcs c v l) (hm:l.length * 64 ≤ 140737488351232) :
  Calls Try.prog 43 #[v] w fun e w'=>∃ v',e = .returned v'∧Of Ty.hd (ov c w w') v' (headR l)∧Grow w w':=by
 have HC:=Lib.hid hc
 have HV:=Lib.hid hv
 obtain ⟨al,cl,rfl,h1,h2,-,hel⟩:=hv
 have hlm:l.length ≤ 2199023255489:=by omega
 clear hm
 go_enter Try.func43,Try.ntmps43
 go_wp2
 go_loopw [13] (fun i wr=>∃ (k:Nat) (h:Hd) (vo:Value),k ≤ l.length∧i = .int .i64 k∧(l.take k).foldl headStep ⟨l,0,0,[]⟩ = h∧RBox c w wr (.slice al l.length cl) vo h∧KOk h k) (fun i _=>l.length - (intOf i).toNat)
 case atStart=>
  exact ⟨0,⟨l,0,0,[]⟩,.slice none 0 0,by omega,rfl,rfl,⟨heap_later (row_new _ _) _,by simpa using row_new (w.alloc (.cells zhead 57)) (.cells #[.slice al l.length cl,.int .i64 0,.int .i64 0,.slice none 0 0] 57),OwnC.nil _ _ _ _ _,((Grow.refl w).alloc _).alloc _,by simp⟩,⟨by simp,zero_ok,zero_ok⟩⟩
 case round=>
  obtain ⟨wo,rfl⟩:∃ x:World,x = wr:=⟨_,rfl⟩
  obtain ⟨k,h,vo,hk',rfl,hfold,hbox,hok⟩:=hrel
  obtain ⟨ar,cr,rfl⟩:=hbox.opn.form
  have HFD:=Lib.hid hfold
  have HBX:=Lib.hid hbox
  have HOK0:=Lib.hid hok
  have z3:=hbox.size
  have z4:w.heap.size + 1 < wo.heap.size:=by omega
  have z5:w.heap.size < wo.heap.size:=by omega
  obtain ⟨s0,s1,s2,s3⟩:=cells4 hbox.row
  have sf:=row_free hbox.row
  by_cases hlt:k < l.length
  ·obtain ⟨b,o,vp,rfl,c0,c1,c2,i0,i1,hP⟩:=Rcs.at_ hel k hlt
   obtain ⟨ap,cp,rfl,-⟩:=id hP
   replace c0:=hbox.grow.sub _ _ (hc _ _ c0)
   replace c1:=hbox.grow.sub _ _ (hc _ _ c1)
   replace c2:=hbox.grow.sub _ _ (hc _ _ c2)
   have htk:(l.take (k + 1)).foldl headStep ⟨l,0,0,[]⟩ = headStep h l[k]:=by rw [List.take_succ_eq_append_getElem hlt,List.foldl_append,HFD.out];rfl
   have HTK:=Lib.hid htk
   have HOK1:=Lib.hid (kok_step hok l[k])
   have HI:=Lib.hid (And.intro i1 hP)
   have hrl:h.opn.length ≤ 2199023255489:=by have:=hok.opn;omega
   clear hfold hok htk hP i0 i1 hbox hel
   generalize l[k] = r at *
   go_wp2
   go_loopw [6,20] (fun s6 i wx=>∃ m:Nat,m ≤ h.opn.length∧i = .int .i64 m∧Grow (wo.alloc (.cells #[.int .i64 r.kind,.int .i64 r.deed,.slice ap r.parts.length cp] 48)) wx∧OwnC Ty.opn c wx (wo.heap.size + 1) 136 s6 ((h.opn.take m).filter (keepO r))) (fun _ i _=>h.opn.length - (intOf i).toNat)
   case atStart=>exact ⟨0,by omega,rfl,Grow.refl _,OwnC.nil _ _ _ _ _⟩
   case round=>
    obtain ⟨wx,rfl⟩:∃ x:World,x = wr:=⟨_,rfl⟩
    obtain ⟨m,hm',rfl,hbx,hown⟩:=hrel
    have HG:=Lib.hid (((Grow.refl wo).alloc (.cells #[.int .i64 r.kind,.int .i64 r.deed,.slice ap r.parts.length cp] 48)).trans hbx)
    obtain ⟨q0,q1,q2⟩:=cells3 (row_grow (row_new wo (.cells #[.int .i64 r.kind,.int .i64 r.deed,.slice ap r.parts.length cp] 48)) hbx)
    have q9:wo.heap.size < wx.heap.size:=by have:=hbx.size;simp at this;omega
    have HOWN:=Lib.hid hown
    obtain ⟨av,cv,rfl⟩:=hown.form
    have hfl:((h.opn.take m).filter (keepO r)).length ≤ h.opn.length:=Nat.le_trans (List.length_filter_le _ _) (by simp;omega)
    have HFL:=Lib.hid hfl
    clear hown c0 c1 c2 s0 s1 s2 s3 sf hfl
    by_cases hlm:m < h.opn.length
    ·obtain ⟨gx,csx,rfl,⟨vx,vh,rfl,j0,j1,j2⟩,hAx⟩:=HBX.out.opn.get (by decide) m hlm
     obtain ⟨ax,cx,rfl,-⟩:=id j1
     obtain ⟨ah,ch,rfl,-⟩:=id j2
     have x0:=HG.out.sub _ _ (hAx 0 _ rfl)
     have x1:=HG.out.sub _ _ (hAx 1 _ rfl)
     have x2:=HG.out.sub _ _ (hAx 2 _ rfl)
     have x3:=HG.out.sub _ _ (hAx 3 _ rfl)
     simp only [Ty.opn,Nat.add_zero] at x0 x1 x2 x3
     have HNX:=Lib.hid (filter_take_next (keepO r) hlm)
     have HJ:=Lib.hid (And.intro j0 (And.intro j1 j2))
     clear hAx j0 j1 j2
     generalize h.opn[m] = q at *
     generalize (h.opn.take m).filter (keepO r) = fs at *
     by_cases hq:keepO r q = true
     ·have HQ:=Lib.hid hq
      have hcase:(r.kind != 6) = true ∨ ((r.kind != 6) = false∧(q.deed != r.deed) = true):=by
       by_cases h6:r.kind = 6
       ·right
        simp [keepO,h6] at hq
        exact ⟨by simp [h6],by simpa using hq⟩
       ·left;simp [h6]
      clear hq
      rcases hcase with b6 | ⟨b6,bd⟩
      all_goals
       go_wp2_with (first | (at_builtin;refine wpList_appc (c:=c) (base:=wo.heap.size + 1) (l:=fs) (m:=[q]) ei_opn rfl one_Topn (by decide) rfl (.tmp 34) (.tmp 36) rfl rfl ?own rfl (Src.of_new (T:=Ty.opn) (cs:=#[.int .i64 q.deed,.slice ax q.parts.length cx,.bool q.dec,.slice ah q.heard.length ch]) ⟨_,_,rfl,HJ.out.1,HJ.out.2.1,HJ.out.2.2⟩ _ _ ?d1) ?d2 ?d3 ?_))
       case own=>exact HOWN.out.grow (((Grow.refl _).alloc _).alloc _)
       case d1=>simp
       case d2=>have:=HFL.out;simp;omega
       case d3=>have:=HG.out.size;simp;omega
       intro a9 c9 w9 ho9 hg9 hb9
       have HG9:=Lib.hid (grow_by (w0:=wo.alloc (.cells #[.int .i64 r.kind,.int .i64 r.deed,.slice ap r.parts.length cp] 48)) ((hbx.alloc _).alloc _) hg9 (fun q hq=>by have:=(HOWN.out.lt q hq).1;simpa using this))
       have HO9:=Lib.hid ho9
       clear ho9 hg9 hb9
       go_wp2
       go_roundw
       case rel=>exact ⟨m + 1,by omega,by go_num,HG9.out,by rw [HNX.out,if_pos HQ.out];exact HO9.out⟩
       case measure=>simp [intOf];omega
     ·have HQ:=Lib.hid hq
      have h6:r.kind = 6∧q.deed = r.deed:=by
       simp [keepO] at hq
       exact hq
      have b6:(r.kind != 6) = false:=by simp [h6.1]
      have bd:(q.deed != r.deed) = false:=by simp [h6.2]
      clear hq h6
      go_wp2
      go_roundw
      case rel=>exact ⟨m + 1,by omega,by go_num,hbx.alloc _,by rw [HNX.out,if_neg HQ.out];exact HOWN.out.grow ((Grow.refl _).alloc _)⟩
      case measure=>simp [intOf];omega
    ·have hfin:(h.opn.take m).filter (keepO r) = h.opn.filter (keepO r):=by rw [List.take_of_length_le (by omega)]
     have HOW2:Hid (OwnC Ty.opn c wx (wo.heap.size + 1) 136 (.slice av (h.opn.filter (keepO r)).length cv) (h.opn.filter (keepO r))):=by
      have:=HOWN.out
      rw [hfin] at this
      exact Lib.hid this
     rw [hfin]
     have hf2:(h.opn.filter (keepO r)).length ≤ 2199023255489:=Nat.le_trans (List.length_filter_le _ _) hrl
     clear hfin
     have b2:=HBX.out.later HG.out
     obtain ⟨s0,s1,s2,s3⟩:=cells4 b2.row
     have sf:=row_free b2.row
     have zz:w.heap.size + 1 < wx.heap.size:=by have:=b2.size;omega
     have HR:=Lib.hid (RBox.opns (row:=none) b2 (grownBy_of_grow (Grow.refl wx) none) (by simp) (HOW2.out.base (by omega)))
     have HGR:=Lib.hid (b2.grow)
     clear b2
     generalize hfs:h.opn.filter (keepO r) = fs at *
     have HFS:=Lib.hid hfs
     clear hfs
     have q9':w.heap.size + 1 ≠ wo.heap.size:=by omega
     by_cases k4:r.kind = 4
     ·have b4:(r.kind == 4) = true:=by simp [k4]
      have b5:(r.kind == 5) = false:=by simp [k4]
      have hst:headStep h r = { h with opn:=fs,boot:=wrap64 (h.boot + 1) }:=by unfold headStep;rw [if_pos k4,← HFS.out,keep_all (by omega)]
      have HFO:=Lib.hid (HTK.out.trans hst)
      have HOK:=Lib.hid (hst ▸ HOK1.out)
      clear hst k4
      go_wp2
      go_roundw
      case rel=>exact ⟨k + 1,_,_,by omega,by go_num,HFO.out,HR.out.boot _,HOK.out⟩
      case measure=>simp [intOf];omega
     ·have b4:(r.kind == 4) = false:=by simp [k4]
      by_cases k5:r.kind = 5
      ·have b5:(r.kind == 5) = true:=by simp [k5]
       have hst:headStep h r = { h with opn:=fs ++ [⟨r.deed,r.parts,true,[]⟩] }:=by unfold headStep;rw [if_neg k4,if_pos k5,← HFS.out,keep_all (by omega)]
       have HFO:=Lib.hid (HTK.out.trans hst)
       have HOK:=Lib.hid (hst ▸ HOK1.out)
       clear hst k4 k5
       go_wp2_with (first | (at_builtin;refine wpList_appc (c:=c) (base:=w.heap.size + 2) (l:=fs) (m:=[⟨r.deed,r.parts,true,[]⟩]) ei_opn rfl one_Topn (by decide) rfl (.tmp 52) (.tmp 58) rfl rfl ?own rfl (Src.of_new (T:=Ty.opn) (cs:=#[.int .i64 r.deed,.slice ap r.parts.length cp,.bool true,.slice none 0 0]) ⟨_,_,rfl,HI.out.1,HI.out.2,Sl.nil _ _⟩ _ _ ?d1) ?d2 ?d3 ?_))
       case own=>exact HR.out.opn.grow ((Grow.refl _).alloc _)
       case d1=>simp
       case d2=>simp;omega
       case d3=>have:=HR.out.size;simp at this ⊢;omega
       intro a9 c9 w9 ho9 hg9 hb9
       have hr9:∀ q,(Value.slice av fs.length cv).ownBlock = some q→w.heap.size + 2 ≤ q:=fun q hq=>(HR.out.opn.lt q hq).1
       have t9:=row_by (row_grow HR.out.row ((Grow.refl _).alloc (.cells #[.int .i64 r.deed,.slice ap r.parts.length cp,.bool true,.slice none 0 0] 136))) hg9 (fun e=>by have:=hr9 _ e.symm;omega)
       have HX:=Lib.hid (RBox.opns HR.out (grownBy_trans (grownBy_of_grow ((Grow.refl _).alloc _) _) hg9) hr9 ho9)
       clear s0 s1 s2 s3 sf hg9 ho9 hb9 hr9
       obtain ⟨s0,s1,s2,s3⟩:=cells4 t9
       have sf:=row_free t9
       have s9:w.heap.size + 1 < w9.heap.size:=(Array.getElem?_eq_some_iff.1 t9).1
       clear t9
       go_wp2
       go_roundw
       case rel=>exact ⟨k + 1,_,_,by omega,by go_num,HFO.out,HX.out,HOK.out⟩
       case measure=>simp [intOf];omega
      ·have b5:(r.kind == 5) = false:=by simp [k5]
       have hst:headStep h r = { h with opn:=fs }:=by
        unfold headStep
        rw [if_neg k4,if_neg k5,← HFS.out]
        by_cases k6:r.kind = 6
        ·rw [if_pos k6,keep_six k6]
        ·rw [if_neg k6,keep_all k6]
       have HFO:=Lib.hid (HTK.out.trans hst)
       have HOK:=Lib.hid (hst ▸ HOK1.out)
       clear hst k4 k5
       go_wp2
       go_roundw
       case rel=>exact ⟨k + 1,_,_,by omega,by go_num,HFO.out,HR.out,HOK.out⟩
       case measure=>simp [intOf];omega
  ·have HH:Hid (h = headR l):=by show h = _;rw [← HFD.out,List.take_of_length_le (by omega)];rfl
   clear hfold hok hbox hel
   go_wp2_with (first | (refine wpList_store_row rfl (.tmp 2) (.tmp 62) rfl rfl rfl HBX.out.res info_hd rfl rfl ?_))
   intro wf r2 g2
   obtain ⟨p0,p1,p2,p3⟩:=cells4 r2
   have pf:=row_free r2
   clear s0 s1 s2 s3 sf
   go_wp2
   refine bodyPost_ret (v:=.agg #[.slice al l.length cl,.int .i64 h.boot,.int .i64 h.next,.slice ar h.opn.length cr]) (by simp [results,Try.results43,go_sem,p0,p1,p2,p3]) rfl ?_
   have hlog:h.log = l:=by rw [HH.out];exact (headR_next l).2
   have e2:=((HBX.out.opn.mono (ov_in HC.out)).block fun k hk=>g2.block k (HBX.out.opn.lt k hk).2 (by have:=(HBX.out.opn.lt k hk).1;simp;omega)).slc (by decide) (Sub.refl _) fun a ha=>ov_new (by omega)
   rw [← HH.out]
   refine ⟨_,rfl,⟨_,rfl,_,_,rfl,?_,HOK0.out.boot,HOK0.out.next,e2⟩,HBX.out.grow.grown g2 (fun k hk=>by simp at hk;omega)⟩
   rw [hlog];exact HV.out.mono (ov_in HC.out)
theorem src_new {α:Type} {T:Ty α} (h0:0 < T.size) {w W w4:World} {e:Nat} {v:Value} {l:List α} {row:Option Nat} (hg:Grow w W) (hr:∀ k,row = some k→k < W.heap.size) (h:OwnC T (fr W w4 [v.ownBlock]) w4 W.heap.size e v l):Src T (fr w w4 [row]) w4 v l:=by
 have hs:=hg.size
 have hk:∀ k,W.heap.size ≤ k→some k ∉ [row]:=fun k hk=>by
  simp only [List.mem_singleton]
  intro e
  have:=hr _ e.symm
  omega
 refine Src.of_sl_c h0 (fr_sub _ _ _) (h.slc h0 (fun a v e=>?_) fun a ha=>fr_new (by omega) (hk _ ha))
 unfold fr at e
 split at e
 ·cases e
 ·rename_i hn
  have h1:¬ a.block < W.heap.size:=fun hx=>hn (.inl hx)
  rw [fr_new (by omega) (hk _ (by omega))]
  exact e
theorem cell_past {w w':World} {B:Nat} {a:Addr} {v:Value} (h:w.cell? a = some v) (hg:w.grownBy w' (some B)) (hne:a.block ≠ B):w'.cell? a = some v:=by
 rw [by_cell hg (World.block_lt_of_cell? w a h) hne];exact h
theorem wo_ne {B:Nat} {c:CM} {a:Addr} {v:Value} (h:wo B c a = some v):a.block ≠ B:=fun e=>by
 unfold wo at h
 rw [if_pos e] at h
 cases h
theorem ov_store {c:CM} {w W w1 w':World} {B:Nat} (hW:Grow w W) (h1:Grow W w1) (hB:B < W.heap.size) (hg:w1.grownBy w' (some B)):Sub (ov (wo B (ov c w W)) W w1) (ov c w w'):=fun a v e=>by
 have hs:=hW.size
 unfold ov at e
 split at e
 ·have ne:=wo_ne e
  have e2:=wo_sub _ _ a v e
  by_cases hl:a.block < w.heap.size
  ·rw [if_pos hl] at e2
   unfold ov
   rw [if_pos hl];exact e2
  ·rw [if_neg hl] at e2
   rw [ov_new (by omega)]
   exact cell_past (h1.sub _ _ e2) hg ne
 ·rw [ov_new (by omega)]
  exact cell_past e hg (by omega)
theorem Opns.agg {c:CM} {q:Opn} {vp vh:Value} (h1:I64 q.deed) (h2:Sl Ty.pt c vp q.parts) (h3:Sl Ty.int c vh q.heard):Of Ty.opn c (.agg #[.int .i64 q.deed,vp,.bool q.dec,vh]) q:=⟨_,rfl,_,_,rfl,h1,h2,h3⟩
structure HdOk (h:Hd):Prop where
 opn:h.opn.length ≤ 12
 parts:∀ o ∈ h.opn,o.parts.length ≤ 4
 heard:∀ o ∈ h.opn,o.heard.length ≤ 3
 log:h.log.length ≤ 100000
 boot:0 ≤ h.boot∧h.boot ≤ 20
 next:0 ≤ h.next∧h.next ≤ 64
set_option maxRecDepth 100000 in
set_option maxHeartbeats 2000000 in
theorem ref_headTick {v:Value} {h:Hd} (w:World) (hv:Of Ty.hd w.cell? v h) (hk:HdOk h) :
  Calls Try.prog 109 #[v] w fun e w'=>∃ v',e = .returned v'∧OwnC Ty.ms (fr w w' [v'.ownBlock]) w' w.heap.size 39 v' (tickE h)∧Grow w w':=by
 obtain ⟨al,cl,ar,cr,rfl⟩:=hv.hd_form
 obtain ⟨ar',cr',he,h1,h2,-,hel⟩:=(Of.hd_log hv).2
 obtain ⟨rfl,rfl⟩:ar = ar'∧cr = cr':=by simpa using he
 unfold maxLen at h2
 have HOP:=Lib.hid hk.parts
 have h12:=hk.opn
 clear hk he hv
 go_enter Try.func109,Try.ntmps109
 go_wp2
 go_loopw [3,9] (fun s3 i wr=>∃ k:Nat,k ≤ h.opn.length∧i = .int .i64 k∧Grow w wr∧OwnC Ty.ms (fr w wr [s3.ownBlock]) wr w.heap.size 39 s3 ((h.opn.take k).flatMap asksE)) (fun _ i _=>h.opn.length - (intOf i).toNat)
 case atStart=>exact ⟨0,by omega,rfl,(by repeat (first | with_reducible assumption | with_reducible exact Grow.refl _ | with_reducible apply Grow.drewN | with_reducible apply Grow.drew | with_reducible apply Grow.alloc | (refine Grow.setCell ?_ (by simp;done) _))),OwnC.nil _ _ _ _ _⟩
 case round=>
  obtain ⟨k,hk',rfl,hb,hown⟩:=hrel
  by_cases hlt:k < h.opn.length
  ·obtain ⟨b,o,vp,vh,rfl,c0,c1,c2,c3,i0,hP,hH⟩:=Opns.at_ hel k hlt
   obtain ⟨ap,cp,rfl,-⟩:=id hP
   obtain ⟨ah,ch,rfl,-⟩:=id hH
   have HAS:=Lib.hid (fun (W:World) (hW:Grow wr W)=>ref_asks (o:=h.opn[k]) W (Opns.agg i0 (hP.mono (hb.trans hW).sub) (hH.mono (hb.trans hW).sub)) (by have:=HOP.out _ (List.getElem_mem hlt);omega))
   replace c0:=hb.sub _ _ c0
   replace c1:=hb.sub _ _ c1
   replace c2:=hb.sub _ _ c2
   replace c3:=hb.sub _ _ c3
   have HTK:=Lib.hid (flat_next asksE hlt)
   have HLK:=Lib.hid (show ((h.opn.take k).flatMap asksE).length ≤ 36 by have:=flat_short asks_short (h.opn.take k);rw [List.length_take] at this;omega)
   have HAL:=Lib.hid (asks_short h.opn[k])
   have HOWN:=Lib.hid hown
   have HB:=Lib.hid hb
   obtain ⟨av,cv,rfl⟩:=hown.form
   clear hel hP hH hown hb i0
   generalize h.opn[k] = q at *
   generalize (h.opn.take k).flatMap asksE = ms at *
   go_wp2_with fail
   refine (HAS.out _ ((Grow.refl wr).alloc _)).mono ?_
   rintro e w4 ⟨v4,rfl,ho4,hb4⟩
   obtain ⟨a4,c4,rfl⟩:=ho4.form
   have G4:=Lib.hid (((Grow.refl wr).alloc _).trans hb4)
   have HSR:=Lib.hid (src_new (w:=w) (row:=(Value.slice av ms.length cv).ownBlock) (by decide) (HB.out.alloc _) (fun q hq=>by have:=(HOWN.out.lt q hq).2;simp;omega) ho4)
   have HO4:=Lib.hid ((HOWN.out.mono (fr_grow G4.out)).grow G4.out)
   clear ho4 hb4
   generalize asksE q = aq at *
   go_wp2_with (first | (at_builtin;refine wpList_appc (c:=fr w w4 [(Value.slice av ms.length cv).ownBlock]) (base:=w.heap.size) (l:=ms) (m:=aq) ei_ms rfl one_Tms (by decide) rfl (.tmp 13) (.tmp 15) rfl rfl HO4.out rfl HSR.out ?d2 ?d3 ?_))
   case d2=>have:=HLK.out;have:=HAL.out;omega
   case d3=>have:=HB.out.size;have:=G4.out.size;omega
   intro a9 c9 w9 ho9 hg9 hb9
   have HG9:Hid (Grow w w9):=Lib.hid (grow_by (w0:=w) (HB.out.trans G4.out) hg9 (fun q hq=>(HOWN.out.lt q hq).1))
   have HO9:=Lib.hid (ho9.mono (fr_app hg9 (hb9.imp_right fun ⟨g,e,hge⟩=>⟨g,e,by simpa using hge⟩)))
   clear ho9 hg9 hb9
   go_wp2
   go_roundw
   case rel=>exact ⟨k + 1,by omega,by go_num,HG9.out,by rw [HTK.out];exact HO9.out⟩
   case measure=>simp [intOf];omega
  ·have HOWN:=Lib.hid hown
   have HB:=Lib.hid hb
   clear hel hown hb
   go_wp2
   go_ret
   have h9:=HOWN.out
   rw [List.take_of_length_le (by omega)] at h9
   exact ⟨_,rfl,h9,HB.out⟩
set_option maxRecDepth 100000 in
set_option maxHeartbeats 2000000 in
theorem ref_fall {c:CM} {v:Value} {h:Hd} (w:World) (hc:Sub c w.cell?) (hv:Of Ty.hd c v h) (hk:HdOk h) :
  Calls Try.prog 103 #[v] w fun e w'=>∃ v',e = .returned (.tuple #[v',.int .i64 (fallE h)])∧Of Ty.hd (ov c w w') v' (fallH h)∧Grow w w':=by
 obtain ⟨al,cl,ar,cr,rfl⟩:=hv.hd_form
 have HV:=Lib.hid hv
 have HC:=Lib.hid hc
 have HLG:=Lib.hid (Of.hd_log hv).1
 have hll:=hk.log
 clear hk hv hc
 obtain ⟨wa,hwa⟩:∃ y:World,y = w.alloc (.cells #[.slice al h.log.length cl,.int .i64 h.boot,.int .i64 h.next,.slice ar h.opn.length cr] 57):=⟨_,rfl⟩
 obtain ⟨wz,hwz⟩:∃ y:World,y = wa.alloc (.cells #[.slice none 0 0,.int .i64 0,.int .i64 0,.slice none 0 0] 57):=⟨_,rfl⟩
 have hsz:wa.heap.size = w.heap.size + 1:=by rw [hwa];simp
 have R1:Hid (wz.heap[w.heap.size]? = some (.cells #[.slice al h.log.length cl,.int .i64 h.boot,.int .i64 h.next,.slice ar h.opn.length cr] 57 (0,0))):=Lib.hid (by rw [hwz,hwa];exact heap_later (row_new _ _) _)
 have R2:Hid (wz.heap[w.heap.size + 1]? = some (.cells #[.slice none 0 0,.int .i64 0,.int .i64 0,.slice none 0 0] 57 (0,0))):=Lib.hid (by rw [hwz,← hsz];exact row_new _ _)
 have G1:Hid (Grow w wz):=Lib.hid (by rw [hwz,hwa];exact ((Grow.refl w).alloc _).alloc _)
 have HZ:Hid (wz.heap.size = w.heap.size + 2):=Lib.hid (by rw [hwz,hwa];simp)
 by_cases hb:19 < h.boot
 ·have HE1:Hid (fallH h = h):=Lib.hid (by unfold fallH;rw [if_pos hb])
  have HE2:Hid (fallE h = 5):=Lib.hid (by unfold fallE;rw [if_pos hb])
  go_enter Try.func103,Try.ntmps103
  go_upto_region 1 with fail
  rw [← hwa]
  try rw [hsz]
  rw [← hwz]
  clear hwa hwz hsz
  obtain ⟨c0,c1,c2,c3⟩:=cells4 R1.out
  have z1:w.heap.size < wz.heap.size:=(Array.getElem?_eq_some_iff.1 R1.out).1
  have z2:w.heap.size + 1 < wz.heap.size:=(Array.getElem?_eq_some_iff.1 R2.out).1
  go_wp2_with (first | (refine wpList_store_row rfl (.tmp 2) (.tmp 7) rfl rfl rfl R2.out info_hd rfl rfl ?_))
  intro w7 r7 g7
  obtain ⟨p0,p1,p2,p3⟩:=cells4 r7
  clear c0 c1 c2 c3
  go_wp2
  refine bodyPost_ret (v:=.tuple #[.agg #[.slice al h.log.length cl,.int .i64 h.boot,.int .i64 h.next,.slice ar h.opn.length cr],.int .i64 5]) (by simp [results,Try.results103,go_sem,p0,p1,p2,p3]) rfl ?_
  have G7:=G1.out.grown g7 (fun q hq=>by simp at hq;omega)
  rw [HE1.out,HE2.out]
  exact ⟨_,rfl,HV.out.mono (ov_in HC.out),G7⟩
 ·have HE1:Hid (fallH h = headR (h.log ++ [⟨4,0,[]⟩])):=Lib.hid (by unfold fallH;rw [if_neg hb])
  have HE2:Hid (fallE h = 0):=Lib.hid (by unfold fallE;rw [if_neg hb])
  have HLL:Hid ((h.log ++ [(⟨4,0,[]⟩:Rc)]).length = h.log.length + 1):=Lib.hid (by simp)
  go_enter Try.func103,Try.ntmps103
  go_upto_region 1 with fail
  rw [← hwa]
  try rw [hsz]
  rw [← hwz]
  clear hwa hwz hsz
  obtain ⟨c0,c1,c2,c3⟩:=cells4 R1.out
  have z1:w.heap.size < wz.heap.size:=(Array.getElem?_eq_some_iff.1 R1.out).1
  have z2:w.heap.size + 1 < wz.heap.size:=(Array.getElem?_eq_some_iff.1 R2.out).1
  go_wp2_with (first | (at_builtin;refine wpList_appc (c:=c) (base:=w.heap.size + 2) (l:=[]) (m:=h.log) (v:=.slice (some ⟨wz.heap.size,0,none⟩) 0 0) ei_rc rfl one_Trc (by decide) rfl (.tmp 8) (.tmp 10) rfl rfl (OwnC.made0 Ty.rc _ _ _ _ ?c1 ?c1') rfl ?src ?c3 ?c4 ?_))
  case c1=>rw [HZ.out];exact Nat.le_refl _
  case c1'=>rfl
  case src=>exact Src.of_sl_c (by decide) (HC.out.trans (G1.out.alloc _).sub) HLG.out
  case c3=>(try simp);omega
  case c4=>have:=HZ.out;(try simp);omega
  intro a8 c8 w8 ho8 hg8 hb8
  try simp only [List.length_nil,Nat.zero_add,List.nil_append] at ho8
  try simp only [List.length_nil,Nat.zero_add]
  have HO8:=Lib.hid ho8
  have G8:=Lib.hid (grow_by (w0:=wz) ((Grow.refl wz).alloc _) hg8 (own_at (Nat.le_refl _)))
  clear ho8 hg8 hb8 c0 c1 c2 c3
  go_wp2_with (first | (at_builtin;refine wpList_appc (c:=c) (base:=w.heap.size + 2) (l:=h.log) (m:=[⟨4,0,[]⟩]) ei_rc rfl one_Trc (by decide) rfl (.tmp 11) (.tmp 13) rfl rfl (HO8.out.grow ((Grow.refl _).alloc _)) rfl (Src.of_new (T:=Ty.rc) (x:=⟨4,0,[]⟩) (cs:=#[.int .i64 4,.int .i64 0,.slice none 0 0]) ⟨_,rfl,(show I64 4 from by unfold I64;decide),zero_ok,Sl.nil _ _⟩ _ _ ?d1) ?d2 ?d3 ?_))
  case d1=>first | rfl | simp
  case d2=>(try simp);omega
  case d3=>have:=G8.out.size;have:=HZ.out;(try simp);omega
  intro a9 c9 w9 ho9 hg9 hb9
  have G9:=Lib.hid (grow_by (w0:=wz) (G8.out.alloc _) hg9 (fun q hq=>by have:=(HO8.out.lt q hq).1;have:=HZ.out;omega))
  have GW9:=Lib.hid (G1.out.trans G9.out)
  have HX9:=Lib.hid (ho9.slc (d:=wo (w.heap.size + 1) (ov c w w9)) (by decide) (wo_ov_in HC.out (by omega)) fun a ha=>wo_ov_new (by omega) (by omega))
  have R29:=Lib.hid (row_grow R2.out G9.out)
  clear ho9 hg9 hb9
  generalize h.log ++ [(⟨4,0,[]⟩:Rc)] = lg at *
  go_wp2_with fail
  refine (ref_head (l:=lg) (c:=wo (w.heap.size + 1) (ov c w w9)) w9 (wo_ov_sub HC.out GW9.out) ?hl (by rw [HLL.out];omega)).mono ?_
  case hl=>first | exact HX9.out | (have h9:=HX9.out;rw [HLL.out] at h9;simpa using h9)
  rintro e w10 ⟨v10,rfl,hx,hb10⟩
  obtain ⟨al2,cl2,ar2,cr2,rfl⟩:=hx.hd_form
  have R210:=Lib.hid (row_grow R29.out hb10)
  have HX:=Lib.hid hx
  have GB10:=Lib.hid hb10
  have z29:=(Array.getElem?_eq_some_iff.1 R29.out).1
  have G10:=Lib.hid (GW9.out.trans hb10)
  clear hx hb10
  go_wp2_with (first | (refine wpList_store_row rfl (.tmp 2) (.tmp 15) rfl rfl rfl R210.out info_hd rfl rfl ?_))
  intro w7 r7 g7
  obtain ⟨p0,p1,p2,p3⟩:=cells4 r7
  go_wp2
  refine bodyPost_ret (v:=.tuple #[.agg #[.slice al2 (headR lg).log.length cl2,.int .i64 (headR lg).boot,.int .i64 (headR lg).next,.slice ar2 (headR lg).opn.length cr2],.int .i64 0]) (by simp [results,Try.results103,go_sem,p0,p1,p2,p3]) rfl ?_
  rw [HE1.out,HE2.out]
  refine ⟨_,rfl,?_,G10.out.grown g7 (fun q hq=>by simp at hq;omega)⟩
  exact HX.out.mono (ov_store GW9.out GB10.out z29 g7)
theorem wpList_store_cell {P:Program} {ty:TypeId} {ops:Array Oper} {rest:List Oper} {w:World} {o:Oper} {a:Act} {Q:Exit→Act→World→Prop} (hgd:o.guard = none) (d s:Operand) (ho:o.op = .store ty d s)
  {g p:Nat} {t:TypeId} {old new:Array Value} {v:Value} (hd:a.eval d = .pointer (some ⟨g,p,none⟩)) (hs:a.eval s = v) (hv:v.cells = [v].toArray) (hrow:w.heap[g]? = some (.cells old t (0,0)))
  (hi:(P.info? ty).map (·.size) = some 1) (hos:p + 1 ≤ old.size) (h1:v.oneCell' = true) (hnew:(old.toList.take p ++ [v] ++ old.toList.drop (p + 1)).toArray = new)
  (h:∀ w',w'.heap[g]? = some (.cells new t (0,0))→w.grownBy w' (some g)→wpList P ops Q rest (a.put o.dst undef) w'):wpList P ops Q (o :: rest) a w:=
 wpList_plain hgd fun _ hK=>wp_store_cell d s ho hd hs hv hrow hi hos h1 hnew fun w' a b=>hK _ _ (h w' a b)
theorem info_opns:(Try.prog.info? 55).map (·.size) = some 1:=by kernel_rfl
theorem info_int1:(Try.prog.info? 3).map (·.size) = some 1:=by kernel_rfl
theorem OwnC.srcA {α:Type} {T:Ty α} {c:CM} {w:World} {base e:Nat} {v:Value} {l:List α} (h:OwnC T c w base e v l):Src T c w v l:=by
 obtain ⟨css,h1,h2,h3⟩:=h
 obtain ⟨a,cap,rfl⟩:=owns_form h1
 have h4:=own_src h1
 exact ⟨a,cap,css,rfl,h4.1,by obtain ⟨-,⟨-,hn⟩ | ⟨g,cap',cur,he,-,-,hnc,hcm,-⟩⟩:=h1 <;> omega,h2,h3,h4.2⟩
def Apart (u v:Value):Prop:=∀ q,u.ownBlock = some q→v.ownBlock ≠ some q
theorem Apart.keep {α:Type} {T:Ty α} {c:CM} {w w':World} {base e:Nat} {u v:Value} {l:List α} (h:Apart u v) (hv:OwnC T c w base e v l) (hg:w.grownBy w' u.ownBlock):OwnC T c w' base e v l:=
 hv.kept hg (by
  cases e:v.ownBlock with
  | none=>exact .inl rfl
  | some q=>exact .inr (fun e2=>h q e2.symm e))
theorem Apart.symm {u v:Value} (h:Apart u v):Apart v u:=fun q e e2=>h q e2 e
theorem Apart.step {α:Type} {T:Ty α} {c:CM} {w:World} {base e:Nat} {u u' v:Value} {l:List α} (h:Apart u v) (hv:OwnC T c w base e v l) (hb:u'.ownBlock = u.ownBlock ∨ ∃ g,u'.ownBlock = some g∧w.heap.size ≤ g):Apart u' v:=fun q e e2=>by
 rcases hb with hb | ⟨g,hb,hge⟩
 ·exact h q (hb.symm.trans e) e2
 ·rw [hb] at e
  obtain rfl:=Option.some.inj e
  have:=(hv.lt g e2).2
  omega
set_option maxRecDepth 100000 in
set_option maxHeartbeats 4000000 in
theorem ref_quit {c:CM} {v:Value} {h:Hd} (w:World) (hc:Sub c w.cell?) (hv:Of Ty.hd c v h) (hk:HdOk h) :
  Calls Try.prog 107 #[v] w fun e w'=>∃ v1 v2,e = .returned (.tuple #[v1,v2])∧Of Ty.hd (ov c w w') v1 (quitH h)∧Sl Ty.ms (ov c w w') v2 (quitM h)∧Grow w w':=by
 obtain ⟨al,cl,ar,cr,rfl⟩:=hv.hd_form
 have HLG:=Lib.hid (Of.hd_log hv).1
 have HIB:Hid (I64 h.boot∧I64 h.next):=Lib.hid (by obtain ⟨cs,he,_,_,rfl,_,h1,h2,_⟩:=hv;exact ⟨h1,h2⟩)
 obtain ⟨ar',cr',he,h1,h2,-,hel⟩:=(Of.hd_log hv).2
 obtain ⟨rfl,rfl⟩:ar = ar'∧cr = cr':=by simpa using he
 unfold maxLen at h2
 have HOP:=Lib.hid hk.parts
 have h12:=hk.opn
 have HC:=Lib.hid hc
 clear hk he hv hc
 obtain ⟨wa,hwa⟩:∃ y:World,y = w.alloc (.cells #[.slice al h.log.length cl,.int .i64 h.boot,.int .i64 h.next,.slice ar h.opn.length cr] 57):=⟨_,rfl⟩
 obtain ⟨wz,hwz⟩:∃ y:World,y = wa.alloc (.cells #[.slice none 0 0,.int .i64 0,.int .i64 0,.slice none 0 0] 57):=⟨_,rfl⟩
 have hsz:wa.heap.size = w.heap.size + 1:=by rw [hwa];simp
 have R1:Hid (wz.heap[w.heap.size]? = some (.cells #[.slice al h.log.length cl,.int .i64 h.boot,.int .i64 h.next,.slice ar h.opn.length cr] 57 (0,0))):=Lib.hid (by rw [hwz,hwa];exact heap_later (row_new _ _) _)
 have R2:Hid (wz.heap[w.heap.size + 1]? = some (.cells #[.slice none 0 0,.int .i64 0,.int .i64 0,.slice none 0 0] 57 (0,0))):=Lib.hid (by rw [hwz,← hsz];exact row_new _ _)
 have G1:Hid (Grow w wz):=Lib.hid (by rw [hwz,hwa];exact ((Grow.refl w).alloc _).alloc _)
 have HZ:Hid (wz.heap.size = w.heap.size + 2):=Lib.hid (by rw [hwz,hwa];simp)
 go_enter Try.func107,Try.ntmps107
 go_upto_region 3 with fail
 rw [← hwa]
 try rw [hsz]
 rw [← hwz]
 clear hwa hwz hsz
 obtain ⟨c0,c1,c2,c3⟩:=cells4 R1.out
 have z1:w.heap.size < wz.heap.size:=(Array.getElem?_eq_some_iff.1 R1.out).1
 go_wp2
 clear c0 c1 c2 c3
 go_loopw [4,5,11] (fun s4 s5 i wr=>∃ k:Nat,k ≤ h.opn.length∧i = .int .i64 k∧Grow wz wr∧OwnC Ty.opn c wr (w.heap.size + 2) 136 s4 ((h.opn.take k).filter fun o=>o.dec)∧OwnC Ty.ms (fun _=>none) wr (w.heap.size + 2) 39 s5 (((h.opn.take k).filter fun o=>!o.dec).flatMap fun o=>abortsE o.deed o.parts)∧Apart s4 s5) (fun _ _ i _=>h.opn.length - (intOf i).toNat)
 case atStart=>exact ⟨0,by omega,rfl,Grow.refl _,OwnC.nil _ _ _ _ _,OwnC.nil _ _ _ _ _,fun q e=>by simp [Value.ownBlock] at e⟩
 case round=>
  obtain ⟨k,hk',rfl,hb,how4,how5,hap⟩:=hrel
  obtain ⟨a4,c4,rfl⟩:=how4.form
  obtain ⟨a5,c5,rfl⟩:=how5.form
  have HO4:=Lib.hid how4
  have HO5:=Lib.hid how5
  have HAP:=Lib.hid hap
  have HB:=Lib.hid hb
  have GB:=Lib.hid (G1.out.trans hb)
  clear how4 how5 hap hb
  by_cases hlt:k < h.opn.length
  ·obtain ⟨b,o,vp,vh,rfl,c0,c1,c2,c3,i0,hP,hH⟩:=Opns.at_ hel k hlt
   obtain ⟨ap,cp,rfl,-⟩:=id hP
   obtain ⟨ah,ch,rfl,-⟩:=id hH
   have HEL:=Lib.hid (And.intro i0 (And.intro hP hH))
   have hpl:=HOP.out _ (List.getElem_mem hlt)
   have HFD:=Lib.hid (filter_take_next (fun o:Opn=>o.dec) hlt)
   have HFM:=Lib.hid (fflat_next (fun o:Opn=>!o.dec) (fun o=>abortsE o.deed o.parts) hlt)
   have HL4:=Lib.hid (show ((h.opn.take k).filter fun o=>o.dec).length ≤ 12 from Nat.le_trans (List.length_filter_le _ _) (by simp;omega))
   have HL5:=Lib.hid (show (((h.opn.take k).filter fun o=>!o.dec).flatMap fun o=>abortsE o.deed o.parts).length ≤ 36 by
    have h8:=flat_short (fun o:Opn=>aborts_short o.deed o.parts) ((h.opn.take k).filter fun o=>!o.dec)
    have h9:((h.opn.take k).filter fun o=>!o.dec).length ≤ 12:=Nat.le_trans (List.length_filter_le _ _) (by simp;omega)
    omega)
   replace c0:=GB.out.sub _ _ (HC.out _ _ c0)
   replace c1:=GB.out.sub _ _ (HC.out _ _ c1)
   replace c2:=GB.out.sub _ _ (HC.out _ _ c2)
   replace c3:=GB.out.sub _ _ (HC.out _ _ c3)
   clear hel hP hH i0
   generalize h.opn[k] = q at *
   generalize (h.opn.take k).filter (fun o=>o.dec) = rs at *
   generalize ((h.opn.take k).filter fun o=>!o.dec).flatMap (fun o=>abortsE o.deed o.parts) = ms at *
   cases hd:q.dec with
   | true=>
    rw [hd] at c2
    have HF1:=Lib.hid HFD.out
    have HF2:=Lib.hid HFM.out
    rw [if_pos hd] at HF1
    rw [if_neg (by simp [hd])] at HF2
    have HEQ:Hid (q = ⟨q.deed,q.parts,true,q.heard⟩):=Lib.hid (by cases q;simp_all)
    clear hd HFD HFM
    have q9:wr.heap.size < (wr.alloc (.cells #[.int .i64 q.deed,.slice ap q.parts.length cp,.bool true,.slice ah q.heard.length ch] 136)).heap.size:=by simp
    go_wp2_with (first | (at_builtin;refine wpList_appc (c:=c) (base:=w.heap.size + 2) (l:=rs) (m:=[q]) ei_opn rfl one_Topn (by decide) rfl (.tmp 17) (.tmp 19) rfl rfl ?own rfl (Src.of_new (T:=Ty.opn) (x:=q) (cs:=#[.int .i64 q.deed,.slice ap q.parts.length cp,.bool true,.slice ah q.heard.length ch]) ?d0 _ _ ?d1) ?d2 ?d3 ?_))
    case own=>exact HO4.out.grow (((Grow.refl _).alloc _).alloc _)
    case d0=>rw [HEQ.out];exact ⟨_,_,rfl,HEL.out.1,HEL.out.2.1,HEL.out.2.2⟩
    case d1=>simp
    case d2=>have:=HL4.out;simp;omega
    case d3=>have:=HB.out.size;have:=HZ.out;simp;omega
    intro a9 c9 w9 ho9 hg9 hb9
    have HG9:Hid (Grow wz w9):=Lib.hid (grow_by (w0:=wz) ((HB.out.alloc _).alloc _) hg9 (fun q hq=>by have:=(HO4.out.lt q hq).1;have:=HZ.out;omega))
    have HO9:=Lib.hid ho9
    have HK5:=Lib.hid (HO5.out.grow (((Grow.refl wr).alloc (.cells #[.int .i64 q.deed,.slice ap q.parts.length cp,.bool true,.slice ah q.heard.length ch] 136)).alloc (.cells #[.int .i64 q.deed,.slice ap q.parts.length cp,.bool true,.slice ah q.heard.length ch] 136)))
    have HO59:=Lib.hid (HAP.out.keep HK5.out hg9)
    have HAP9:=Lib.hid (HAP.out.step HK5.out (hb9.imp_right fun ⟨g,e,hge⟩=>⟨g,e,by simpa using hge⟩))
    clear ho9 hg9 hb9 HK5 q9
    go_wp2
    go_roundw
    case rel=>exact ⟨k + 1,by omega,by go_num,HG9.out,by rw [HF1.out];exact HO9.out,by rw [HF2.out];exact HO59.out,HAP9.out⟩
    case measure=>simp [intOf];omega
   | false=>
    rw [hd] at c2
    have HF1:=Lib.hid HFD.out
    have HF2:=Lib.hid HFM.out
    rw [if_neg (by simp [hd])] at HF1
    rw [if_pos (by simp [hd])] at HF2
    have HEQ:Hid (q = ⟨q.deed,q.parts,false,q.heard⟩):=Lib.hid (by cases q;simp_all)
    have HAB:=Lib.hid (fun (W:World) (hW:Grow w W)=>ref_aborts (v:=.agg #[.int .i64 q.deed,.slice ap q.parts.length cp,.bool false,.slice ah q.heard.length ch]) (o:=q) W (by rw [HEQ.out];exact ⟨_,rfl,_,_,rfl,HEL.out.1,HEL.out.2.1.mono (HC.out.trans hW.sub),HEL.out.2.2.mono (HC.out.trans hW.sub)⟩) (by omega))
    have HAL:=Lib.hid (aborts_short q.deed q.parts)
    clear hd HFD HFM
    have q9:wr.heap.size < (wr.alloc (.cells #[.int .i64 q.deed,.slice ap q.parts.length cp,.bool false,.slice ah q.heard.length ch] 136)).heap.size:=by simp
    go_wp2_with fail
    refine (HAB.out _ (GB.out.alloc _)).mono ?_
    rintro e w4 ⟨v4,rfl,ho4,hb4⟩
    obtain ⟨a6,c6,rfl⟩:=ho4.form
    have G4:=Lib.hid (((Grow.refl wr).alloc _).trans hb4)
    have HSR:Hid (Src Ty.ms (fun _=>none) w4 (.slice a6 (abortsE q.deed q.parts).length c6) (abortsE q.deed q.parts)):=Lib.hid ho4.srcA
    have HK4:=Lib.hid (HO4.out.grow G4.out)
    have HK5:=Lib.hid (HO5.out.grow G4.out)
    clear ho4 hb4 q9 c0 c1 c2 c3
    generalize abortsE q.deed q.parts = aq at *
    go_wp2_with (first | (at_builtin;refine wpList_appc (c:=fun _=>none) (base:=w.heap.size + 2) (l:=ms) (m:=aq) ei_ms rfl one_Tms (by decide) rfl (.tmp 21) (.tmp 23) rfl rfl HK5.out rfl HSR.out ?d2 ?d3 ?_))
    case d2=>have:=HL5.out;have:=HAL.out;omega
    case d3=>have:=HB.out.size;have:=HZ.out;have:=G4.out.size;omega
    intro a9 c9 w9 ho9 hg9 hb9
    have HG9:Hid (Grow wz w9):=Lib.hid (grow_by (w0:=wz) (HB.out.trans G4.out) hg9 (fun q hq=>by have:=(HO5.out.lt q hq).1;have:=HZ.out;omega))
    have HO9:=Lib.hid ho9
    have HO49:=Lib.hid (HAP.out.symm.keep HK4.out hg9)
    have HAP9:=Lib.hid (HAP.out.symm.step HK4.out hb9).symm
    clear ho9 hg9 hb9 HK4 HK5
    go_wp2
    go_roundw
    case rel=>exact ⟨k + 1,by omega,by go_num,HG9.out,by rw [HF1.out];exact HO49.out,by rw [HF2.out];exact HO9.out,HAP9.out⟩
    case measure=>simp [intOf];omega
  ·have HF1:Hid ((h.opn.take k).filter (fun o=>o.dec) = (quitH h).opn):=Lib.hid (by rw [List.take_of_length_le (by omega)];rfl)
   have HF2:Hid (((h.opn.take k).filter fun o=>!o.dec).flatMap (fun o=>abortsE o.deed o.parts) = quitM h):=Lib.hid (by rw [List.take_of_length_le (by omega)];rfl)
   have RR1:=Lib.hid (row_grow R1.out HB.out)
   have RR2:=Lib.hid (row_grow R2.out HB.out)
   rw [HF1.out] at HO4 HAP ⊢
   rw [HF2.out] at HO5 HAP ⊢
   clear hel HF1 HF2
   generalize hqo:(quitH h).opn = qo at *
   have HQO:=Lib.hid hqo
   clear hqo
   generalize hqm:quitM h = qm at *
   have HQM:=Lib.hid hqm
   clear hqm
   go_wp2_with (first | (refine wpList_store_cell rfl (.tmp 27) (.tmp 26) (v:=.slice a4 qo.length c4) (new:=#[.slice al h.log.length cl,.int .i64 h.boot,.int .i64 h.next,.slice a4 qo.length c4]) rfl rfl (by rfl) (by rfl) RR1.out info_opns (by simp) (by rfl) (by rfl) ?_))
   intro w8 r8 g8
   have G8:=Lib.hid (GB.out.grown g8 (fun q hq=>by simp at hq;omega))
   have R8:=Lib.hid r8
   have R28:=Lib.hid (row_by RR2.out g8 (by intro e;have:=Option.some.inj e;omega))
   have HO48:=Lib.hid (HO4.out.kept g8 (by
    cases e:(Value.slice a4 qo.length c4).ownBlock with
    | none=>exact .inl rfl
    | some q=>exact .inr (by have:=(HO4.out.lt q e).1;intro e2;have:=Option.some.inj e2;omega)))
   have HO58:=Lib.hid (HO5.out.kept g8 (by
    cases e:(Value.slice a5 qm.length c5).ownBlock with
    | none=>exact .inl rfl
    | some q=>exact .inr (by have:=(HO5.out.lt q e).1;intro e2;have:=Option.some.inj e2;omega)))
   obtain ⟨c0,c1,c2,c3⟩:=cells4 r8
   have z8:w.heap.size < w8.heap.size:=(Array.getElem?_eq_some_iff.1 r8).1
   clear r8 g8
   go_wp2_with (first | (refine wpList_store_row rfl (.tmp 2) (.tmp 28) rfl rfl rfl R28.out info_hd rfl rfl ?_))
   intro w7 r7 g7
   obtain ⟨p0,p1,p2,p3⟩:=cells4 r7
   clear c0 c1 c2 c3
   go_wp2
   refine bodyPost_ret (v:=.tuple #[.agg #[.slice al h.log.length cl,.int .i64 h.boot,.int .i64 h.next,.slice a4 qo.length c4],.slice a5 qm.length c5]) (by simp [results,Try.results107,go_sem,p0,p1,p2,p3]) rfl ?_
   have G7:=G8.out.grown g7 (fun q hq=>by simp at hq;omega)
   refine ⟨_,_,rfl,⟨_,rfl,_,_,rfl,HLG.out.mono (ov_in HC.out),HIB.out.1,HIB.out.2,?_⟩,?_,G7⟩
   ·rw [HQO.out]
    refine OwnC.slc (by decide) (HO48.out.kept g7 ?_) (ov_in HC.out) fun a ha=>ov_new (by omega)
    cases e:(Value.slice a4 qo.length c4).ownBlock with
    | none=>exact .inl rfl
    | some q=>exact .inr (by have:=(HO4.out.lt q e).1;intro e2;have:=Option.some.inj e2;omega)
   ·rw [HQM.out]
    refine OwnC.slc (c:=fun _=>none) (by decide) (HO58.out.kept g7 ?_) (fun _ _ e=>by cases e) fun a ha=>ov_new (by omega)
    cases e:(Value.slice a5 qm.length c5).ownBlock with
    | none=>exact .inl rfl
    | some q=>exact .inr (by have:=(HO5.out.lt q e).1;intro e2;have:=Option.some.inj e2;omega)
def Ty.oph:Ty (Opn × Value) where
 size:=4
 R:=fun c cs x=>∃ vp:Value,cs = [.int .i64 x.1.deed,vp,.bool x.1.dec,x.2]∧I64 x.1.deed∧Sl Ty.pt c vp x.1.parts∧x.2.oneCell' = true
 len:=by rintro c cs x ⟨_,rfl,_⟩;rfl
 mono:=by rintro c c' cs x h ⟨a,rfl,h1,h2,h3⟩;exact ⟨a,rfl,h1,h2.mono h,h3⟩
abbrev OpH:=Opn × Value
theorem one_Toph:TOne Ty.oph:=by
 rintro c cs x ⟨v,rfl,-,h,h'⟩ u hu
 simp only [List.mem_cons,List.not_mem_nil,or_false] at hu
 rcases hu with rfl | rfl | rfl | rfl
 ·rfl
 ·exact sl_oneCell h
 ·rfl
 ·exact h'
def ApO (a b:Option Nat):Prop:=a = none ∨ a ≠ b
theorem ApO.symm {a b:Option Nat} (h:ApO a b):ApO b a:=by
 rcases h with rfl | h
 ·cases b with
  | none=>exact .inl rfl
  | some q=>exact .inr (by simp)
 ·exact .inr fun e=>h e.symm
structure RowsOk (w W:World) (X:List (Option Nat)):Prop where
 pw:X.Pairwise ApO
 lt:∀ q,some q ∈ X→w.heap.size ≤ q∧q < W.heap.size
theorem RowsOk.off {w W:World} {X:List (Option Nat)} (h:RowsOk w W X) {i j:Nat} {a b:Option Nat} (hi:X[i]? = some a) (hj:X[j]? = some b) (hne:i ≠ j):ApO a b:=by
 obtain ⟨hi1,rfl⟩:=List.getElem?_eq_some_iff.1 hi
 obtain ⟨hj1,rfl⟩:=List.getElem?_eq_some_iff.1 hj
 rcases Nat.lt_or_gt_of_ne hne with h1 | h1
 ·exact List.pairwise_iff_getElem.1 h.pw i j hi1 hj1 h1
 ·exact (List.pairwise_iff_getElem.1 h.pw j i hj1 hi1 h1).symm
theorem RowsOk.later {w W W2:World} {X:List (Option Nat)} (h:RowsOk w W X) (hs:W.heap.size ≤ W2.heap.size):RowsOk w W2 X:=⟨h.pw,fun q hq=>by have:=h.lt q hq;omega⟩
theorem RowsOk.step {w W W2:World} {X:List (Option Nat)} {i:Nat} {r r':Option Nat} (h:RowsOk w W X) (hi:X[i]? = some r) (hg:W.grownBy W2 r) (hb:r' = r ∨ ∃ g,r' = some g∧W.heap.size ≤ g) (hl:∀ q,r' = some q→w.heap.size ≤ q∧q < W2.heap.size) :
  RowsOk w W2 (X.set i r')∧Sub (fr w W X) (fr w W2 (X.set i r')):=by
 have hs:=hg.size
 refine ⟨⟨?_,fun q hq=>?_⟩,fr_step fun k hk h0 hx=>⟨hg.block k hk fun e=>hx (e ▸ List.mem_of_getElem? hi),fun hx'=>?_⟩⟩
 ·rw [List.pairwise_iff_getElem]
  intro a b ha hb' hab
  rw [List.length_set] at ha hb'
  have hv':∀ j u,j ≠ i→X[j]? = some u→ApO r' u:=fun j u hj hu=>by
   rcases hb with rfl | ⟨g,rfl,hge⟩
   ·exact h.off hi hu (Ne.symm hj)
   ·refine .inr fun e=>?_
    have:=(h.lt g (e ▸ List.mem_of_getElem? hu)).2
    omega
  rw [List.getElem_set,List.getElem_set]
  by_cases h1:i = a
  ·rw [if_pos h1,if_neg (by omega)]
   exact hv' b _ (by omega) (List.getElem?_eq_getElem hb')
  ·rw [if_neg h1]
   by_cases h2:i = b
   ·rw [if_pos h2]
    exact (hv' a _ (by omega) (List.getElem?_eq_getElem ha)).symm
   ·rw [if_neg h2]
    exact List.pairwise_iff_getElem.1 h.pw a b ha hb' hab
 ·rcases List.mem_or_eq_of_mem_set hq with hq | hq
  ·have:=h.lt q hq;omega
  ·exact hl q hq.symm
 ·rcases List.mem_or_eq_of_mem_set hx' with hu | e
  ·exact hx hu
  ·rcases hb with rfl | ⟨g,rfl,hge⟩
   ·exact hx (e ▸ List.mem_of_getElem? hi)
   ·have:=Option.some.inj e
    omega
theorem RowsOk.less {w W:World} {X Y:List (Option Nat)} (h:RowsOk w W X) (hp:Y.Pairwise ApO) (hs:∀ q,some q ∈ Y→some q ∈ X):RowsOk w W Y∧Sub (fr w W X) (fr w W Y):=
 ⟨⟨hp,fun q hq=>h.lt q (hs q hq)⟩,fr_step fun _ _ _ hx=>⟨rfl,fun hy=>hx (hs _ hy)⟩⟩
def hro (B:Nat) (vl vo:Value) (L:List OpH):List (Option Nat):=some B :: vl.ownBlock :: vo.ownBlock :: L.map (·.2.ownBlock)
structure HR (w W:World) (B:Nat) (vl vo:Value) (lg:List Rc) (L:List OpH):Prop where
 log:OwnC Ty.rc (fr w W (hro B vl vo L)) W w.heap.size 48 vl lg
 opn:OwnC Ty.oph (fr w W (hro B vl vo L)) W w.heap.size 136 vo L
 heard:∀ x ∈ L,OwnC Ty.int (fun _=>none) W w.heap.size 3 x.2 x.1.heard
 ok:RowsOk w W (hro B vl vo L)
 grow:Grow w W
theorem OwnC.of_oph {c d:CM} {w:World} {base e:Nat} {v:Value} {L:List OpH} (h:OwnC Ty.oph c w base e v L) (hs:Sub c d) (hh:∀ x ∈ L,Sl Ty.int d x.2 x.1.heard):OwnC Ty.opn d w base e v (L.map (·.1)):=by
 obtain ⟨css,h1,h2,h3⟩:=h
 refine ⟨css,by rw [List.length_map];exact h1,by simp [h2],fun i cs x a b=>?_⟩
 rw [List.getElem?_map] at b
 cases hL:L[i]? with
 | none=>rw [hL] at b;cases b
 | some y=>
  rw [hL] at b
  obtain rfl:=Option.some.inj b
  obtain ⟨vp,he,hi,hp,-⟩:=h3 i cs y a hL
  exact ⟨vp,y.2,he,hi,hp.mono hs,hh y (List.mem_of_getElem? hL)⟩
section
variable {w W:World} {B:Nat} {vl vo:Value} {lg:List Rc} {L:List OpH}
theorem HR.heardSl (b:HR w W B vl vo lg L) (x:OpH) (hx:x ∈ L):Sl Ty.int (ov (fun _=>none) w W) x.2 x.1.heard:=
 (b.heard x hx).slc (by decide) (fun a v e=>by cases e) fun a ha=>ov_new ha
theorem HR.opns (b:HR w W B vl vo lg L):OwnC Ty.opn (ov (fun _=>none) w W) W w.heap.size 136 vo (L.map (·.1)):=b.opn.of_oph (fr_ov (fun _=>none) _ _ _) b.heardSl
theorem HR.of (b:HR w W B vl vo lg L) {boot next:Int} (h1:I64 boot) (h2:I64 next):Of Ty.hd (ov (fun _=>none) w W) (.agg #[vl,.int .i64 boot,.int .i64 next,vo]) ⟨lg,boot,next,L.map (·.1)⟩:=
 ⟨_,rfl,vl,vo,rfl,b.log.slc (by decide) (fr_ov _ _ _ _) fun a ha=>ov_new ha,h1,h2,b.opns.slc (by decide) (Sub.refl _) fun a ha=>ov_new ha⟩
theorem HR.later {W2:World} (b:HR w W B vl vo lg L) (hg:Grow W W2):HR w W2 B vl vo lg L where
 log:=(b.log.mono (fr_grow hg)).grow hg
 opn:=(b.opn.mono (fr_grow hg)).grow hg
 heard:=fun x hx=>(b.heard x hx).grow hg
 ok:=b.ok.later hg.size
 grow:=b.grow.trans hg
theorem HR.at_heard {k:Nat} {x:OpH} (hk:L[k]? = some x):(hro B vl vo L)[k + 3]? = some x.2.ownBlock:=by
 simp [hro,List.getElem?_map,hk]
theorem apo_off {v:Value} {r:Option Nat} (h:ApO v.ownBlock r):v.ownBlock = none ∨ v.ownBlock ≠ r:=h
theorem HR.box {W2:World} (b:HR w W B vl vo lg L) (hg:W.grownBy W2 (some B)):HR w W2 B vl vo lg L:=by
 have h0:(hro B vl vo L)[0]? = some (some B):=rfl
 obtain ⟨k1,k2⟩:=b.ok.step h0 hg (.inl rfl) (fun q hq=>by have:=b.ok.lt q (hq ▸ List.mem_of_getElem? h0);have:=hg.size;omega)
 have e:(hro B vl vo L).set 0 (some B) = hro B vl vo L:=rfl
 rw [e] at k1 k2
 refine ⟨(b.log.mono k2).kept hg (apo_off (b.ok.off (i:=1) (j:=0) rfl h0 (by decide))),(b.opn.mono k2).kept hg (apo_off (b.ok.off (i:=2) (j:=0) rfl h0 (by decide))),fun x hx=>?_,k1,b.grow.grown hg (fun k hk=>(b.ok.lt k (hk ▸ List.mem_of_getElem? h0)).1)⟩
 obtain ⟨i,hi,rfl⟩:=List.mem_iff_getElem.1 hx
 exact (b.heard _ hx).kept hg (apo_off (b.ok.off (HR.at_heard (List.getElem?_eq_getElem hi)) h0 (by omega)))
theorem HR.logs {W2:World} {vl':Value} {lg':List Rc} (b:HR w W B vl vo lg L) (hg:W.grownBy W2 vl.ownBlock) (hb:vl'.ownBlock = vl.ownBlock ∨ ∃ g,vl'.ownBlock = some g∧W.heap.size ≤ g)
  (ho:OwnC Ty.rc (fr w W (hro B vl vo L)) W2 w.heap.size 48 vl' lg'):HR w W2 B vl' vo lg' L:=by
 have h0:(hro B vl vo L)[1]? = some vl.ownBlock:=rfl
 obtain ⟨k1,k2⟩:=b.ok.step h0 hg hb ho.lt
 have e:(hro B vl vo L).set 1 vl'.ownBlock = hro B vl' vo L:=rfl
 rw [e] at k1 k2
 refine ⟨ho.mono k2,(b.opn.mono k2).kept hg (apo_off (b.ok.off (i:=2) (j:=1) rfl h0 (by decide))),fun x hx=>?_,k1,b.grow.grown hg (fun k hk=>(b.log.lt k hk).1)⟩
 obtain ⟨i,hi,rfl⟩:=List.mem_iff_getElem.1 hx
 exact (b.heard _ hx).kept hg (apo_off (b.ok.off (HR.at_heard (List.getElem?_eq_getElem hi)) h0 (by omega)))
theorem HR.put {W2:World} {vo':Value} {L':List OpH} (b:HR w W B vl vo lg L) (hg:W.grownBy W2 vo.ownBlock) (hb:vo'.ownBlock = vo.ownBlock ∨ ∃ g,vo'.ownBlock = some g∧W.heap.size ≤ g)
  (ho:OwnC Ty.oph (fr w W (hro B vl vo L)) W2 w.heap.size 136 vo' L') (hh:∀ x ∈ L',x ∈ L ∨ x.2 = .slice none 0 0∧x.1.heard = []) (hp:(L'.map (·.2.ownBlock)).Pairwise ApO):HR w W2 B vl vo' lg L':=by
 have h0:(hro B vl vo L)[2]? = some vo.ownBlock:=rfl
 obtain ⟨k1,k2⟩:=b.ok.step h0 hg hb ho.lt
 have e:(hro B vl vo L).set 2 vo'.ownBlock = hro B vl vo' L:=rfl
 rw [e] at k1 k2
 have hin:∀ q,some q ∈ L'.map (·.2.ownBlock)→some q ∈ L.map (·.2.ownBlock):=fun q hq=>by
  obtain ⟨x,hx,e⟩:=List.mem_map.1 hq
  rcases hh x hx with h | ⟨h,-⟩
  ·exact List.mem_map.2 ⟨x,h,e⟩
  ·rw [h] at e;cases e
 have hsub:∀ q,some q ∈ hro B vl vo' L'→some q ∈ hro B vl vo' L:=fun q hq=>by
  unfold hro at hq ⊢
  rcases List.mem_cons.1 hq with h | hq
  ·exact List.mem_cons.2 (.inl h)
  rcases List.mem_cons.1 hq with h | hq
  ·exact List.mem_cons.2 (.inr (List.mem_cons.2 (.inl h)))
  rcases List.mem_cons.1 hq with h | hq
  ·exact List.mem_cons.2 (.inr (List.mem_cons.2 (.inr (List.mem_cons.2 (.inl h)))))
  ·exact List.mem_cons.2 (.inr (List.mem_cons.2 (.inr (List.mem_cons.2 (.inr (hin q hq))))))
 have hpw:(hro B vl vo' L').Pairwise ApO:=by
  have p:=k1.pw
  unfold hro at p ⊢
  simp only [List.pairwise_cons] at p ⊢
  have up:∀ a:Option Nat,(∀ c ∈ L.map (·.2.ownBlock),ApO a c)→∀ c ∈ L'.map (·.2.ownBlock),ApO a c:=fun a ha c hc=>by
   cases c with
   | none=>exact ApO.symm (.inl rfl)
   | some q=>exact ha _ (hin q hc)
  refine ⟨fun c hc=>?_,fun c hc=>?_,up _ p.2.2.1,hp⟩
  ·rcases List.mem_cons.1 hc with rfl | hc
   ·exact p.1 _ (by simp)
   ·rcases List.mem_cons.1 hc with rfl | hc
    ·exact p.1 _ (by simp)
    ·exact up _ (fun c hc=>p.1 c (by simp at hc ⊢;exact .inr (.inr hc))) c hc
  ·rcases List.mem_cons.1 hc with rfl | hc
   ·exact p.2.1 _ (by simp)
   ·exact up _ (fun c hc=>p.2.1 c (by simp at hc ⊢;exact .inr hc)) c hc
 obtain ⟨k3,k4⟩:=k1.less hpw hsub
 have k5:=k2.trans k4
 refine ⟨(b.log.mono k5).kept hg (apo_off (b.ok.off (i:=1) (j:=2) rfl h0 (by decide))),ho.mono k5,fun x hx=>?_,k3,b.grow.grown hg (fun k hk=>(b.opn.lt k hk).1)⟩
 rcases hh x hx with h | ⟨h1,h2⟩
 ·obtain ⟨i,hi,rfl⟩:=List.mem_iff_getElem.1 h
  exact (b.heard _ h).kept hg (apo_off (b.ok.off (HR.at_heard (List.getElem?_eq_getElem hi)) h0 (by omega)))
 ·rw [h1,h2];exact OwnC.nil _ _ _ _ _
end
theorem OwnC.cellSet {α:Type} {T:Ty α} {c:CM} {w:World} {base e g n cap:Nat} {l:List α} (h:OwnC T c w base e (.slice (some ⟨g,0,none⟩) n cap) l) (hn:n = l.length) {i j:Nat} {x x':α} (hi:l[i]? = some x) (hj:j < T.size) {u:Value}
  (hR:∀ cs,T.R c cs x→T.R c (cs.set j u) x'):OwnC T c (w.setCell ⟨g,i * T.size + j,none⟩ u) base e (.slice (some ⟨g,0,none⟩) n cap) (l.set i x'):=by
 obtain ⟨css,h1,h2,h3⟩:=h
 subst hn
 have hil:=(List.getElem?_eq_some_iff.1 hi).1
 have hcl:=css_len h2 h3
 have hcx:css[i]? = some css[i]:=List.getElem?_eq_getElem (by omega)
 have hci:=h3 i css[i] x hcx hi
 have k2:=(h1.stored (i * T.size + j) u).1
 have e1:(css.set i (css[i].set j u)).flatten = css.flatten.set (i * T.size + j) u:=by
  have h0:0 < T.size:=by omega
  have hcl':∀ cs ∈ css.set i (css[i].set j u),cs.length = T.size:=fun cs hcs=>by
   rcases List.mem_or_eq_of_mem_set hcs with h | rfl
   ·exact hcl cs h
   ·rw [List.length_set];exact T.len hci
  apply List.ext_getElem?
  intro q
  rw [flatten_at h0 _ hcl',List.getElem?_set,List.getElem?_set,flatten_at h0 css hcl]
  by_cases hq:i = q / T.size
  ·rw [if_pos hq]
   subst hq
   rw [if_pos (by omega),hcx]
   simp only [Option.bind_some,List.getElem?_set]
   have hdm:=Nat.div_add_mod q T.size
   rw [Nat.mul_comm] at hdm
   by_cases hj2:j = q % T.size
   ·rw [if_pos hj2,if_pos (by rw [T.len hci];exact hj),if_pos (by omega),if_pos (by
     rw [flatten_len css hcl,h2]
     have:(q / T.size + 1) * T.size ≤ l.length * T.size:=Nat.mul_le_mul_right _ (by omega)
     rw [Nat.add_mul] at this;omega)]
   ·rw [if_neg hj2,if_neg (by omega)]
  ·rw [if_neg hq,if_neg (fun e=>hq (by
    rw [← e,Nat.mul_comm,Nat.mul_add_div h0,Nat.div_eq_of_lt hj,Nat.add_zero]))]
 refine ⟨css.set i (css[i].set j u),by rw [e1];simpa using k2,by simp [h2],fun q cs y a b=>?_⟩
 rw [List.getElem?_set] at a b
 by_cases hq:i = q
 ·rw [if_pos hq,if_pos (by omega)] at a b
  obtain rfl:=Option.some.inj a
  obtain rfl:=Option.some.inj b
  exact hR _ hci
 ·rw [if_neg hq] at a b
  exact h3 q cs y a b
theorem OwnC.erase {α:Type} {T:Ty α} {c c':CM} {w':World} {base e g cap i:Nat} {l:List α} {css:List (List Value)} (h2:css.length = l.length) (h3:∀ (i:Nat) (cs:List Value) (x:α),css[i]? = some cs→l[i]? = some x→T.R c cs x) (hs:Sub c c') (hi:i < l.length)
  (hnew:w'.ownsRow base e T.size (.slice (some ⟨g,0,none⟩) (l.length - 1) cap) (l.length - 1) (css.flatten.take (i * T.size) ++ css.flatten.drop ((i + 1) * T.size))):OwnC T c' w' base e (.slice (some ⟨g,0,none⟩) (l.length - 1) cap) (l.eraseIdx i):=by
 have hcl:=css_len h2 h3
 refine ⟨css.eraseIdx i,?_,?_,?_⟩
 ·have e:(css.eraseIdx i).flatten = css.flatten.take (i * T.size) ++ css.flatten.drop ((i + 1) * T.size):=by
   rw [flatten_take css i hcl,flatten_drop css (i + 1) hcl,List.eraseIdx_eq_take_drop_succ,List.flatten_append]
  rw [e,List.length_eraseIdx_of_lt hi]
  exact hnew
 ·rw [List.length_eraseIdx_of_lt hi,List.length_eraseIdx_of_lt (by omega),h2]
 ·intro j cs x a e
  rw [List.getElem?_eraseIdx] at a e
  by_cases hj:j < i
  ·rw [if_pos hj] at a e
   exact T.mono hs (h3 j cs x a e)
  ·rw [if_neg hj] at a e
   exact T.mono hs (h3 (j + 1) cs x a e)
theorem HR.hear {w W W2:World} {B:Nat} {vl:Value} {lg:List Rc} {L:List OpH} {g n cap k:Nat} {x:OpH} {v':Value} {l':List Int} (b:HR w W B vl (.slice (some ⟨g,0,none⟩) n cap) lg L) (hn:n = L.length) (hk:L[k]? = some x)
  (hg:W.grownBy W2 x.2.ownBlock) (hb:v'.ownBlock = x.2.ownBlock ∨ ∃ q,v'.ownBlock = some q∧W.heap.size ≤ q) (ho:OwnC Ty.int (fun _=>none) W2 w.heap.size 3 v' l') :
  HR w (W2.setCell ⟨g,k * 4 + 3,none⟩ v') B vl (.slice (some ⟨g,0,none⟩) n cap) lg (L.set k (⟨x.1.deed,x.1.parts,x.1.dec,l'⟩,v'))∧W.cell? ⟨g,k * 4,none⟩ = some (.int .i64 x.1.deed)∧∃ vp,W.cell? ⟨g,k * 4 + 1,none⟩ = some vp:=by
 have hkl:=(List.getElem?_eq_some_iff.1 hk).1
 have h0:=HR.at_heard (B:=B) (vl:=vl) (vo:=.slice (some ⟨g,0,none⟩) n cap) hk
 obtain ⟨k1,k2⟩:=b.ok.step h0 hg hb ho.lt
 have e:(hro B vl (.slice (some ⟨g,0,none⟩) n cap) L).set (k + 3) v'.ownBlock = hro B vl (.slice (some ⟨g,0,none⟩) n cap) (L.set k (⟨x.1.deed,x.1.parts,x.1.dec,l'⟩,v')):=by
  unfold hro
  simp [List.map_set]
 rw [e] at k1 k2
 have h2:∀ M:List OpH,(hro B vl (.slice (some ⟨g,0,none⟩) n cap) M)[2]? = some (some g):=fun _=>rfl
 have gs:W2.grownBy (W2.setCell ⟨g,k * 4 + 3,none⟩ v') (some g):=grownBy_setCell W2 ⟨g,k * 4 + 3,none⟩ v'
 obtain ⟨k3,k4⟩:=k1.step (h2 _) gs (.inl rfl) (fun q hq=>by
  have:=k1.lt q (by rw [← hq];exact List.mem_of_getElem? (h2 _))
  have:=gs.size;omega)
 have e2:(hro B vl (.slice (some ⟨g,0,none⟩) n cap) (L.set k (⟨x.1.deed,x.1.parts,x.1.dec,l'⟩,v'))).set 2 (some g) = hro B vl (.slice (some ⟨g,0,none⟩) n cap) (L.set k (⟨x.1.deed,x.1.parts,x.1.dec,l'⟩,v')):=rfl
 rw [e2] at k3 k4
 have hsub:=k2.trans k4
 have o1:=(b.opn.kept hg (apo_off (b.ok.off (i:=2) (j:=k + 3) (h2 _) h0 (by omega))))
 have o2:=OwnC.cellSet (T:=Ty.oph) (x':=(⟨x.1.deed,x.1.parts,x.1.dec,l'⟩,v')) o1 hn hk (j:=3) (by decide) (u:=v') (fun cs hR=>by
  obtain ⟨vp,rfl,h1,h2,-⟩:=hR
  exact ⟨vp,rfl,h1,h2,by obtain ⟨a',c',rfl⟩:=ho.form;rfl⟩)
 refine ⟨⟨((b.log.kept hg (apo_off (b.ok.off (i:=1) (j:=k + 3) rfl h0 (by omega)))).mono hsub).kept gs (apo_off (b.ok.off (i:=1) (j:=2) rfl (h2 _) (by decide))),o2.mono hsub,fun y hy=>?_,k3,(b.grow.grown hg (fun q hq=>(b.ok.lt q (hq ▸ List.mem_of_getElem? h0)).1)).grown gs (fun q hq=>(b.ok.lt q (by rw [← hq];exact List.mem_of_getElem? (h2 _))).1)⟩,?_⟩
 ·obtain ⟨i,hi,rfl⟩:=List.mem_iff_getElem.1 hy
  rw [List.length_set] at hi
  have hoff:ApO ((hro B vl (.slice (some ⟨g,0,none⟩) n cap) (L.set k (⟨x.1.deed,x.1.parts,x.1.dec,l'⟩,v')))[i + 3]?.getD none) (some g):=by
   have h9:=HR.at_heard (B:=B) (vl:=vl) (vo:=.slice (some ⟨g,0,none⟩) n cap) (L:=L.set k (⟨x.1.deed,x.1.parts,x.1.dec,l'⟩,v')) (k:=i) (List.getElem?_eq_getElem (by rw [List.length_set];exact hi))
   rw [h9]
   exact k1.off h9 (h2 _) (by omega)
  have h9:=HR.at_heard (B:=B) (vl:=vl) (vo:=.slice (some ⟨g,0,none⟩) n cap) (L:=L.set k (⟨x.1.deed,x.1.parts,x.1.dec,l'⟩,v')) (k:=i) (List.getElem?_eq_getElem (by rw [List.length_set];exact hi))
  rw [h9] at hoff
  refine OwnC.kept ?_ gs (apo_off hoff)
  by_cases hki:k = i
  ·subst hki
   simp only [List.getElem_set_self]
   exact ho
  ·rw [List.getElem_set_ne hki]
   exact (b.heard _ (List.getElem_mem _)).kept hg (apo_off (b.ok.off (HR.at_heard (List.getElem?_eq_getElem hi)) h0 (by omega)))
 ·have o:=b.opn
  rw [hn] at o
  obtain ⟨g',cs,hg',hR,hA⟩:=o.get (by decide) k hkl
  obtain rfl:g = g':=by simpa using hg'
  obtain ⟨vp,rfl,-,-,-⟩:=hR
  have hx:L[k] = x:=by rw [List.getElem?_eq_getElem hkl] at hk;exact Option.some.inj hk
  have c0:=hA 0 _ rfl
  have c1:=hA 1 _ rfl
  rw [hx] at c0
  exact ⟨c0,vp,c1⟩
theorem HR.at_ {w W:World} {B:Nat} {vl:Value} {lg:List Rc} {L:List OpH} {a:Option Addr} {n cap k:Nat} {x:OpH} (b:HR w W B vl (.slice a n cap) lg L) (hn:n = L.length) (hk:L[k]? = some x) :
  ∃ g vp,a = some ⟨g,0,none⟩∧w.heap.size ≤ g∧g < W.heap.size∧W.cell? ⟨g,k * 4,none⟩ = some (.int .i64 x.1.deed)∧W.cell? ⟨g,k * 4 + 1,none⟩ = some vp∧W.cell? ⟨g,k * 4 + 2,none⟩ = some (.bool x.1.dec)∧W.cell? ⟨g,k * 4 + 3,none⟩ = some x.2∧I64 x.1.deed∧
   Sl Ty.pt (fr w W (hro B vl (.slice a n cap) L)) vp x.1.parts∧OwnC Ty.int (fun _=>none) W w.heap.size 3 x.2 x.1.heard:=by
 have hkl:=(List.getElem?_eq_some_iff.1 hk).1
 have o:=b.opn
 rw [hn] at o
 obtain ⟨g',cs,rfl,hR,hA⟩:=o.get (by decide) k hkl
 have hx:L[k] = x:=by rw [List.getElem?_eq_getElem hkl] at hk;exact Option.some.inj hk
 rw [hx] at hR
 obtain ⟨vp,rfl,hi,hp,-⟩:=hR
 have hl:=b.opn.lt g' rfl
 refine ⟨g',vp,rfl,hl.1,hl.2,hA 0 _ rfl,hA 1 _ rfl,hA 2 _ rfl,hA 3 _ rfl,hi,?_,b.heard x (List.mem_of_getElem? hk)⟩
 rw [hn];exact hp
theorem HR.decide {w W:World} {B:Nat} {vl:Value} {lg:List Rc} {L:List OpH} {g n cap k:Nat} {x:OpH} (b:HR w W B vl (.slice (some ⟨g,0,none⟩) n cap) lg L) (hn:n = L.length) (hk:L[k]? = some x) :
  HR w ((W.setCell ⟨g,k * 4 + 2,none⟩ (.bool true)).setCell ⟨g,k * 4 + 3,none⟩ (.slice none 0 0)) B vl (.slice (some ⟨g,0,none⟩) n cap) lg (L.set k (⟨x.1.deed,x.1.parts,true,[]⟩,.slice none 0 0)):=by
 have gs:W.grownBy ((W.setCell ⟨g,k * 4 + 2,none⟩ (.bool true)).setCell ⟨g,k * 4 + 3,none⟩ (.slice none 0 0)) (some g):=grownBy_trans (grownBy_setCell W ⟨g,k * 4 + 2,none⟩ _) (grownBy_setCell _ ⟨g,k * 4 + 3,none⟩ _)
 have hkl:=(List.getElem?_eq_some_iff.1 hk).1
 have o1:=OwnC.cellSet (T:=Ty.oph) (x':=(⟨x.1.deed,x.1.parts,true,x.1.heard⟩,x.2)) b.opn hn hk (j:=2) (by decide) (u:=.bool true) (fun cs hR=>by
  obtain ⟨vp,rfl,h1,h2,h3⟩:=hR
  exact ⟨vp,rfl,h1,h2,h3⟩)
 have hk2:(L.set k (⟨x.1.deed,x.1.parts,true,x.1.heard⟩,x.2))[k]? = some (⟨x.1.deed,x.1.parts,true,x.1.heard⟩,x.2):=by rw [List.getElem?_set_self hkl]
 have o2:=OwnC.cellSet (T:=Ty.oph) (x':=(⟨x.1.deed,x.1.parts,true,[]⟩,.slice none 0 0)) o1 (by rw [List.length_set];exact hn) hk2 (j:=3) (by decide) (u:=.slice none 0 0) (fun cs hR=>by
  obtain ⟨vp,rfl,h1,h2,-⟩:=hR
  exact ⟨vp,rfl,h1,h2,rfl⟩)
 rw [List.set_set] at o2
 refine b.put (vo':=.slice (some ⟨g,0,none⟩) n cap) gs (.inl rfl) o2 (fun y hy=>?_) ?_
 ·rcases List.mem_or_eq_of_mem_set hy with h | rfl
  ·exact .inl h
  ·exact .inr ⟨rfl,rfl⟩
 ·rw [List.map_set]
  have p:(L.map (·.2.ownBlock)).Pairwise ApO:=by
   have p:=b.ok.pw
   unfold hro at p
   simp only [List.pairwise_cons] at p
   exact p.2.2.2
  rw [List.pairwise_iff_getElem]
  intro i j hi hj hij
  rw [List.getElem_set,List.getElem_set]
  by_cases h1:k = i
  ·rw [if_pos h1];exact .inl rfl
  ·rw [if_neg h1]
   by_cases h2:k = j
   ·rw [if_pos h2];exact ApO.symm (.inl rfl)
   ·rw [if_neg h2]
    rw [List.length_set] at hi hj
    exact List.pairwise_iff_getElem.1 p i j hi hj hij
theorem delete_oph {c:CM} {w:World} {base g cap k:Nat} {L:List OpH} (h:OwnC Ty.oph c w base 136 (.slice (some ⟨g,0,none⟩) L.length cap) L) (hk:k < L.length) :
  Calls Try.prog 159 #[.slice (some ⟨g,0,none⟩) L.length cap,.int .i64 k,.int .i64 ((k:Int) + 1)] w fun e w'=>e = .returned (.slice (some ⟨g,0,none⟩) (L.length - 1) cap)∧OwnC Ty.oph c w' base 136 (.slice (some ⟨g,0,none⟩) (L.length - 1) cap) (L.eraseIdx k)∧w.grownBy w' (some g):=by
 obtain ⟨css,h1,h2,h3⟩:=h
 refine (delete_opn (i:=k) h1 hk (fun u hu=>?_)).mono ?_
 ·obtain ⟨cs,hcs,huc⟩:=List.mem_flatten.1 hu
  obtain ⟨i,hi,rfl⟩:=List.mem_iff_getElem.1 hcs
  exact one_Toph _ _ _ (h3 i css[i] L[i] (by simp) (by simp)) u huc
 ·rintro e w' ⟨rfl,ho,hg⟩
  exact ⟨rfl,OwnC.erase (T:=Ty.oph) h2 h3 (Sub.refl _) hk ho,hg⟩
theorem HR.erase {w W W2:World} {B:Nat} {vl vo':Value} {lg:List Rc} {L:List OpH} {g n cap k:Nat} (b:HR w W B vl (.slice (some ⟨g,0,none⟩) n cap) lg L) (hg:W.grownBy W2 (some g)) (hv:vo'.ownBlock = some g)
  (ho:OwnC Ty.oph (fr w W (hro B vl (.slice (some ⟨g,0,none⟩) n cap) L)) W2 w.heap.size 136 vo' (L.eraseIdx k)):HR w W2 B vl vo' lg (L.eraseIdx k):=by
 refine b.put (vo':=vo') hg (.inl hv) ho (fun y hy=>.inl (List.mem_of_mem_eraseIdx hy)) ?_
 have p:=b.ok.pw
 unfold hro at p
 simp only [List.pairwise_cons] at p
 exact p.2.2.2.sublist ((List.eraseIdx_sublist _ _).map _)
theorem RowsOk.perm {w W:World} {X Y:List (Option Nat)} (h:RowsOk w W X) (hp:X.Perm Y):RowsOk w W Y∧Sub (fr w W X) (fr w W Y):=
 h.less ((List.Perm.pairwise_iff (fun h=>ApO.symm h) hp).1 h.pw) fun _ hq=>hp.mem_iff.2 hq
theorem RowsOk.cons {w W:World} {X:List (Option Nat)} {r:Option Nat} (h:RowsOk w W X) (hr:∀ q,r = some q→w.heap.size ≤ q∧q < W.heap.size∧some q ∉ X):RowsOk w W (r :: X):=by
 refine ⟨List.pairwise_cons.2 ⟨fun u hu=>?_,h.pw⟩,fun q hq=>?_⟩
 ·cases r with
  | none=>exact .inl rfl
  | some q=>exact .inr fun e=>(hr q rfl).2.2 (e ▸ hu)
 ·rcases List.mem_cons.1 hq with e | hq
  ·have:=hr q e.symm;omega
  ·exact h.lt q hq
theorem HR.ahead {w W0 W:World} {B:Nat} {vl vo:Value} {lg:List Rc} {L:List OpH} {r:Option Nat} (b:HR w W0 B vl vo lg L) (h0:Grow W0 W) (hr:∀ q,r = some q→W0.heap.size ≤ q∧q < W.heap.size) :
  RowsOk w W (r :: hro B vl vo L)∧Sub (fr w W0 (hro B vl vo L)) (fr w W (r :: hro B vl vo L)):=by
 have hs:=h0.size
 have hw:=b.grow.size
 refine ⟨(b.ok.later hs).cons fun q hq=>⟨by have:=hr q hq;omega,(hr q hq).2,fun hm=>by have:=(b.ok.lt q hm).2;have:=hr q hq;omega⟩,fr_step fun k hk _ hx=>⟨h0.block k hk,fun hm=>?_⟩⟩
 rcases List.mem_cons.1 hm with e | hm
 ·have:=(hr k e.symm).1;omega
 ·exact hx hm
theorem HR.snoc {w W0 W W2:World} {B:Nat} {vl vo vo':Value} {lg:List Rc} {L:List OpH} {x:OpH} (b:HR w W0 B vl vo lg L) (h0:Grow W0 W) (hx:OwnC Ty.int (fun _=>none) W W0.heap.size 3 x.2 x.1.heard)
  (hg:W.grownBy W2 vo.ownBlock) (hb:vo'.ownBlock = vo.ownBlock ∨ ∃ g,vo'.ownBlock = some g∧W.heap.size ≤ g)
  (ho:OwnC Ty.oph (fr w W (x.2.ownBlock :: hro B vl vo L)) W2 w.heap.size 136 vo' (L ++ [x])):HR w W2 B vl vo' lg (L ++ [x]):=by
 obtain ⟨j1,j2⟩:=b.ahead h0 hx.lt
 have hvo:(x.2.ownBlock :: hro B vl vo L)[3]? = some vo.ownBlock:=rfl
 obtain ⟨k1,k2⟩:=j1.step hvo hg hb ho.lt
 have e:(x.2.ownBlock :: hro B vl vo L).set 3 vo'.ownBlock = x.2.ownBlock :: hro B vl vo' L:=rfl
 rw [e] at k1 k2
 have hp:(x.2.ownBlock :: hro B vl vo' L).Perm (hro B vl vo' (L ++ [x])):=by
  have e2:hro B vl vo' (L ++ [x]) = hro B vl vo' L ++ [x.2.ownBlock]:=by simp [hro]
  rw [e2]
  exact (List.perm_append_singleton _ _).symm
 obtain ⟨m1,m2⟩:=k1.perm hp
 have s:=k2.trans m2
 have sz:=h0.size
 refine ⟨((((b.log.grow h0).kept hg (apo_off (b.ok.off (i:=1) (j:=2) rfl rfl (by decide)))).mono j2).mono s),ho.mono s,fun y hy=>?_,m1,(b.grow.trans h0).grown hg (fun k hk=>(b.opn.lt k hk).1)⟩
 rcases List.mem_append.1 hy with hy | hy
 ·obtain ⟨i,hi,rfl⟩:=List.mem_iff_getElem.1 hy
  exact ((b.heard _ hy).grow h0).kept hg (apo_off (b.ok.off (HR.at_heard (List.getElem?_eq_getElem hi)) (j:=2) rfl (by omega)))
 ·obtain rfl:=List.mem_singleton.1 hy
  refine (hx.base b.grow.size).kept hg ?_
  cases h9:y.2.ownBlock with
  | none=>exact .inl rfl
  | some q=>
   refine .inr fun e9=>?_
   have h1:=(hx.lt q h9).1
   have h2:=(b.ok.lt q (by rw [e9];exact List.mem_of_getElem? (i:=2) rfl)).2
   omega
theorem HR.start {w wc w1 W:World} {B:Nat} {vl:Value} {lg:List Rc} (h:OwnC Ty.rc (fr wc w1 [vl.ownBlock]) w1 wc.heap.size 48 vl lg) (hw:w.heap.size ≤ wc.heap.size) (hs:w1.heap.size ≤ W.heap.size)
  (hb:∀ k,k < w1.heap.size→wc.heap.size ≤ k→k ≠ B∧W.heap[k]? = w1.heap[k]?) (hB:w.heap.size ≤ B∧B < W.heap.size) (hg:Grow w W):HR w W B vl (.slice none 0 0) lg []:=by
 have hl:=h.lt
 have hsub:Sub (fr wc w1 [vl.ownBlock]) (fr w W (hro B vl (.slice none 0 0) [])):=fun a v e=>by
  have hlt:=World.block_lt_of_cell? w1 a (fr_sub _ _ _ _ _ e)
  unfold fr at e
  split at e
  ·cases e
  ·rename_i hn
   have h1:¬ a.block < wc.heap.size:=fun hx=>hn (.inl hx)
   have h2:some a.block ≠ vl.ownBlock:=fun hx=>hn (.inr (by rw [hx];simp))
   obtain ⟨h3,h4⟩:=hb a.block hlt (by omega)
   rw [fr_new (by omega) (by
    unfold hro
    simp only [List.map_nil,List.mem_cons,List.not_mem_nil,or_false,not_or]
    exact ⟨fun e=>h3 (Option.some.inj e),h2,by simp [Value.ownBlock]⟩),World.cell?_of_block h4]
   exact e
 refine ⟨((h.mono hsub).block fun k hk=>(hb k (hl k hk).2 (hl k hk).1).2).base hw,OwnC.nil _ _ _ _ _,fun x hx=>(by cases hx),⟨?_,fun q hq=>?_⟩,hg⟩
 ·unfold hro
  simp only [List.map_nil,List.pairwise_cons,List.mem_cons,List.not_mem_nil,or_false,List.Pairwise.nil,and_true,forall_eq,forall_eq_or_imp]
  refine ⟨⟨ApO.symm ?_,ApO.symm (.inl rfl)⟩,ApO.symm (.inl rfl),fun _ h=>by cases h⟩
  cases h9:vl.ownBlock with
  | none=>exact .inl rfl
  | some q=>exact .inr fun e=>(hb q (hl q h9).2 (hl q h9).1).1 (Option.some.inj e)
 ·unfold hro at hq
  simp only [List.map_nil,List.mem_cons,List.not_mem_nil,or_false] at hq
  rcases hq with e | e | e
  ·have:=Option.some.inj e;omega
  ·have:=hl q e.symm;omega
  ·cases e
theorem HR.rebox {w W W2:World} {B B':Nat} {vl vo:Value} {lg:List Rc} {L:List OpH} (b:HR w W B vl vo lg L) (hg:Grow W W2) (h1:W.heap.size ≤ B') (h2:B' < W2.heap.size):HR w W2 B' vl vo lg L:=by
 have hw:=b.grow.size
 have hsub:Sub (fr w W (hro B vl vo L)) (fr w W2 (hro B' vl vo L)):=fr_step fun k hk _ hx=>⟨hg.block k hk,fun hm=>by
  unfold hro at hx hm
  rcases List.mem_cons.1 hm with e | hm
  ·have:=Option.some.inj e;omega
  ·exact hx (List.mem_cons.2 (.inr hm))⟩
 refine ⟨(b.log.mono hsub).grow hg,(b.opn.mono hsub).grow hg,fun x hx=>(b.heard x hx).grow hg,?_,b.grow.trans hg⟩
 have p:=b.ok.pw
 have l:=b.ok.lt
 have sz:=hg.size
 unfold hro at p l ⊢
 rw [List.pairwise_cons] at p
 refine RowsOk.cons ⟨p.2,fun q hq=>?_⟩ fun q hq=>?_
 ·have:=l q (List.mem_cons.2 (.inr hq));omega
 ·obtain rfl:=Option.some.inj hq
  exact ⟨by omega,h2,fun hm=>by have:=(l B' (List.mem_cons.2 (.inr hm))).2;omega⟩
theorem OwnC.slb {α:Type} {T:Ty α} {c d:CM} (h0:0 < T.size) {w:World} {base e:Nat} {v:Value} {l:List α} (h:OwnC T c w base e v l) (hs:Sub c d) (hd:∀ a:Addr,v.ownBlock = some a.block→d a = w.cell? a):Sl T d v l:=by
 obtain ⟨css,⟨hl,hs'⟩,h2,h3⟩:=h
 have hcl:=css_len h2 h3
 rcases hs' with ⟨rfl,hn⟩ | ⟨g,cap,cur,rfl,hg,hrow,hnc,hcm,hcs,htake⟩
 ·have:l = []:=List.eq_nil_of_length_eq_zero hn
  subst this
  exact ⟨none,0,rfl,Nat.le_refl _,Nat.zero_le _,fun _=>rfl,fun i x e=>by simp at e⟩
 ·refine ⟨some ⟨g,0,none⟩,cap,rfl,hnc,hcm,by simp,fun i x e=>?_⟩
  have hi:i < l.length:=(List.getElem?_eq_some_iff.1 e).1
  have hc:css[i]? = some css[i]:=List.getElem?_eq_getElem (by omega)
  refine ⟨g,0,css[i],rfl,T.mono hs (h3 i _ x hc e),fun j u hu=>?_⟩
  have hj:j < T.size:=by rw [← hcl css[i] (List.getElem_mem _)];exact (List.getElem?_eq_some_iff.1 hu).1
  have hx:css.flatten[i * T.size + j]? = some u:=by
   rw [flatten_at h0 css hcl,Nat.mul_comm,Nat.mul_add_div h0,Nat.div_eq_of_lt hj,Nat.add_zero,hc,Nat.mul_add_mod,Nat.mod_eq_of_lt hj];exact hu
  rw [← htake,List.getElem?_take] at hx
  rw [hd _ (by rfl)]
  split at hx
  ·simp only [World.cell?,hrow];simpa using hx
  ·cases hx
theorem HR.low {w0 w W:World} {B:Nat} {vl vo:Value} {lg:List Rc} {L:List OpH} (b:HR w W B vl vo lg L) (h:Grow w0 w):HR w0 W B vl vo lg L:=
 have hs:=h.size
 ⟨(b.log.mono (fr_low hs)).base hs,(b.opn.mono (fr_low hs)).base hs,fun x hx=>(b.heard x hx).base hs,⟨b.ok.pw,fun q hq=>by have:=b.ok.lt q hq;omega⟩,h.trans b.grow⟩
theorem HR.past {w0 w W W2:World} {B A:Nat} {vl vo:Value} {lg:List Rc} {L:List OpH} (b:HR w W B vl vo lg L) (h:Grow w0 w) (hg:W.grownBy W2 (some A)) (hA:w0.heap.size ≤ A∧A < w.heap.size):HR w0 W2 B vl vo lg L:=by
 have hs:=h.size
 have ne:∀ q,some q ∈ hro B vl vo L→q ≠ A:=fun q hq=>by have:=b.ok.lt q hq;omega
 have sub:Sub (fr w W (hro B vl vo L)) (fr w0 W2 (hro B vl vo L)):=(fr_step (W0:=w) (w':=W2) (X':=hro B vl vo L) fun k hk h0 hx=>⟨hg.block k hk (fun e=>by have:=Option.some.inj e;omega),hx⟩).trans (fr_low hs)
 have off:∀ {v:Value} {i:Nat},(hro B vl vo L)[i]? = some v.ownBlock→v.ownBlock = none ∨ v.ownBlock ≠ some A:=fun {v i} hi=>by
  cases e:v.ownBlock with
  | none=>exact .inl rfl
  | some q=>exact .inr fun e2=>ne q (by rw [← e];exact List.mem_of_getElem? hi) (Option.some.inj e2)
 refine ⟨((b.log.mono sub).base hs).kept hg (off (i:=1) rfl),((b.opn.mono sub).base hs).kept hg (off (i:=2) rfl),fun x hx=>?_,⟨b.ok.pw,fun q hq=>by have:=b.ok.lt q hq;have:=hg.size;omega⟩,(h.trans b.grow).grown hg (fun q hq=>by have:=Option.some.inj hq;omega)⟩
 obtain ⟨i,hi,rfl⟩:=List.mem_iff_getElem.1 hx
 exact ((b.heard _ hx).base hs).kept hg (off (HR.at_heard (List.getElem?_eq_getElem hi)))
section
variable {P:Program} {ops:Array Oper} {Q:Exit→Act→World→Prop} {md:Region.Mode} {S:World→Prop} {C:List Nat}
def wpC (P:Program) (md:Region.Mode) (ops:Array Oper) (Q:Exit→Act→World→Prop) (S:World→Prop) (C:List Nat):Nat→Array Bool→Act→World→Prop
 | 0,listed,a,w=>Region.ready md ops listed = []∧Q .normal a w
 | fuel + 1,listed,a,w=>(Region.ready md ops listed = []→Q .normal a w)∧∀ i ∈ Region.ready md ops listed,wpOp P ops Q i (fun a' w'=>(i ∈ C ∨ S w')∧wpC P md ops Q S C fuel (listed.setIfInBounds i true) a' w') a w
theorem wpC_any:∀ (fuel:Nat) (listed:Array Bool) (a:Act) (w:World),wpC P md ops Q S C fuel listed a w→wpAny P md ops Q fuel listed a w
 | 0,_,_,_,h=>h
 | _ + 1,_,_,_,h=>⟨h.1,fun i hi=>wpOp_mono (fun a' w' h'=>wpC_any _ _ a' w' h'.2) (h.2 i hi)⟩
theorem wpC_first {i f:Nat} {oi:Oper} {v:Value} (hi:ops[i]? = some oi) (hsel:∀ (j:Nat) (o:Oper) cs b,ops[j]? = some o→o.op ≠ .select cs b)
  (hQ:∀ k a w,Q (.panic k) (a.put oi.dst v) w→Q (.panic k) a w) (hw:∀ c ∈ C,waitsFor md ops f i c = true) :
  ∀ (fuel:Nat) (listed:Array Bool) (a:Act) (w:World),DownSet md ops listed→
   (∀ j oj,ops[j]? = some oj→j ≠ i→listed.getD j true = false→(∀ e ∈ oj.after,Region.binds md e = true→e.on ≠ i)→oi.apart ops oj = true)→
   i ∈ Region.ready md ops listed→YieldsIf P ops S oi v a→S w→
   wpC P md ops Q S C fuel (listed.setIfInBounds i true) (a.put oi.dst v) w→wpC P md ops Q S C (fuel + 1) listed a w:=by
 have hun:∀ listed:Array Bool,i ∈ Region.ready md ops listed→listed.getD i false = false:=by
  intro listed hr
  have h0:=(mem_ready.1 hr).1
  by_cases hl:i < listed.size
  ·simp [hl] at h0 ⊢;exact h0
  ·simp [hl]
 intro fuel
 induction fuel with
 | zero=>
  intro listed a w _ _ hr hy hS H
  refine ⟨fun h=>(by rw [h] at hr;cases hr),fun j hj=>?_⟩
  by_cases hji:j = i
  ·subst hji;exact hy.wpOp hi hS ⟨.inr hS,H⟩
  ·have:=ready_mono hj hji
   rw [H.1] at this
   cases this
 | succ fuel ih=>
  intro listed a w hcl hfree hr hy hS H
  refine ⟨fun h=>(by rw [h] at hr;cases hr),fun j hj=>?_⟩
  by_cases hji:j = i
  ·subst hji;exact hy.wpOp hi hS ⟨.inr hS,H⟩
  ·have hjc:j ∉ C:=fun e=>(waits_spec hcl (hun _ hr) (hw j e)).1 hj
   have h1:=H.2 j (ready_mono hj hji)
   obtain ⟨hjun,oj,hoj,hall⟩:=mem_ready.1 hj
   have hnot:∀ e ∈ oj.after,Region.binds md e = true→e.on ≠ i:=fun e he hb heq=>by
    have h1:=hall e he hb
    rw [heq,hun _ hr] at h1
    cases h1
   have h2:=wpOp_putIf hoj (hfree j oj hoj hji hjun hnot) (fun cs b=>hsel i oi cs b hi) (fun cs b=>hsel j oj cs b hoj) hQ hy h1
   refine wpOp_mono (fun a' w' h3=>have hs3:=h3.2.1.resolve_left hjc;⟨.inr hs3,ih (listed.setIfInBounds j true) a' w' (hcl.set hj) (fun k ok hk hki hku hno=>?_) (ready_mono hr (Ne.symm hji)) h3.1 hs3 ?_⟩) h2
   ·refine hfree k ok hk hki ?_ hno
    by_cases hjk:j = k
    ·subst hjk;exact hjun
    ·rw [getD_set_ne true hjk] at hku;exact hku
   ·rw [Array.setIfInBounds_comm _ _ hji]
    exact h3.2.2
def tkC (P:Program) (md:Region.Mode) (ops:Array Oper) (Q:Exit→Act→World→Prop) (S:World→Prop) (C:List Nat) (w:World):List Nat→Nat→Array Bool→Act→Prop
 | [],fuel,listed,a=>wpC P md ops Q S C fuel listed a w
 | i :: is,F,listed,a=>∃ fuel oi v,F = fuel + 1∧ops[i]? = some oi∧YieldsIf P ops S oi v a∧tkC P md ops Q S C w is fuel (listed.setIfInBounds i true) (a.put oi.dst v)
def tkBC (md:Region.Mode) (ops:Array Oper) (C:List Nat) (f:Nat):List Nat→Array Bool→Bool
 | [],_=>true
 | i :: is,listed=>Region.free md ops listed i && ((Region.ready md ops listed).contains i && ((C.all fun c=>waitsFor md ops f i c) && tkBC md ops C f is (listed.setIfInBounds i true)))
theorem tkC_go {w:World} (hsel:∀ (j:Nat) (o:Oper) cs b,ops[j]? = some o→o.op ≠ .select cs b) (hQ:∀ k d v a w,Q (.panic k) (a.put (some d) v) w→Q (.panic k) a w) (hS:S w) (f:Nat):∀ (is:List Nat) (fuel:Nat) (listed:Array Bool) (a:Act),DownSet md ops listed→tkBC md ops C f is listed = true→tkC P md ops Q S C w is fuel listed a→wpC P md ops Q S C fuel listed a w
 | [],_,_,_,_,_,h=>h
 | i :: is,_,listed,a,hd,hb,h=>by
  obtain ⟨fuel,oi,v,rfl,hi,hy,h⟩:=h
  simp only [tkBC,Bool.and_eq_true] at hb
  obtain ⟨b1,b2,b3,b4⟩:=hb
  have hr:i ∈ Region.ready md ops listed:=by simpa using b2
  exact wpC_first hi hsel (fun k a w h=>by
   cases hd:oi.dst with
   | none=>rw [hd] at h;exact h
   | some d=>rw [hd] at h;exact hQ k d _ a w h) (fun c hc=>List.all_eq_true.1 b3 c hc) fuel listed a w hd (Region.free_spec hi b1) hr hy hS (tkC_go hsel hQ hS f is fuel _ _ (hd.set hr) b4 h)
theorem bLc (is:List Nat) (f:Nat) {fuel:Nat} {listed:Array Bool} {a:Act} {w:World} (h5:(Region.noSelect ops && (shutB md ops listed && tkBC md ops C f is listed)) = true) (hQ:∀ k d v a w,Q (.panic k) (a.put (some d) v) w→Q (.panic k) a w) (hS:S w)
  (h:tkC P md ops Q S C w is fuel listed a):wpC P md ops Q S C fuel listed a w:=by
 simp only [Bool.and_eq_true] at h5
 exact tkC_go (Region.noSelect_spec h5.1) hQ hS f is fuel listed a (shut_of h5.2.1) h5.2.2 h
theorem tNc {i:Nat} {is:List Nat} {fuel:Nat} {listed:Array Bool} {a:Act} {w:World} {oi:Oper} {v:Value} (hi:ops[i]? = some oi) (hw:Region.wanted oi (yielded ops a.tmps) = true) (hy:∀ w,S w→(execOp a.eval oi).run P w = .ok (.value v) w)
  (h:tkC P md ops Q S C w is fuel (listed.setIfInBounds i true) (a.put oi.dst v)):tkC P md ops Q S C w (i :: is) (fuel + 1) listed a:=⟨fuel,oi,v,rfl,hi,.inl ⟨hw,hy⟩,h⟩
theorem tEc {fuel:Nat} {listed:Array Bool} {a:Act} {w:World} (h:wpC P md ops Q S C fuel listed a w):tkC P md ops Q S C w [] fuel listed a:=h
theorem bDc {listed:Array Bool} {a:Act} {w:World} {fuel:Nat} (hr:Region.ready md ops listed = []) (h:Q .normal a w):wpC P md ops Q S C fuel listed a w:=by
 cases fuel with
 | zero=>exact ⟨hr,h⟩
 | succ n=>exact ⟨fun _=>h,by rw [hr];simp⟩
theorem bOc (i:Nat) {o:Oper} {fuel:Nat} {listed:Array Bool} {a:Act} {w:World} (hr:Region.ready md ops listed = [i]) (hi:ops[i]? = some o)
  (h:∀ K:Act→World→Prop,Hid (∀ a' w',(i ∈ C ∨ S w')∧wpC P md ops Q S C fuel (listed.setIfInBounds i true) a' w'→K a' w')→if Region.wanted o (yielded ops a.tmps) = true then Oper.wp P o a w K Q else K (a.put o.dst undef) w) :
  wpC P md ops Q S C (fuel + 1) listed a w:=by
 refine ⟨fun h0=>absurd (h0.symm.trans hr) (by simp),fun j hj=>?_⟩
 rw [hr] at hj
 obtain rfl:j = i:=by simpa using hj
 exact wpOp_step hi fun K hK=>h K (Lib.hid hK)
theorem bPc (i j:Nat) {o o':Oper} {fuel:Nat} {listed:Array Bool} {a:Act} {w:World} (hr:Region.ready md ops listed = [i,j]) (hi:ops[i]? = some o) (hj:ops[j]? = some o')
  (h:∀ K:Act→World→Prop,Hid (∀ a' w',(i ∈ C ∨ S w')∧wpC P md ops Q S C fuel (listed.setIfInBounds i true) a' w'→K a' w')→if Region.wanted o (yielded ops a.tmps) = true then Oper.wp P o a w K Q else K (a.put o.dst undef) w)
  (h':∀ K:Act→World→Prop,Hid (∀ a' w',(j ∈ C ∨ S w')∧wpC P md ops Q S C fuel (listed.setIfInBounds j true) a' w'→K a' w')→if Region.wanted o' (yielded ops a.tmps) = true then Oper.wp P o' a w K Q else K (a.put o'.dst undef) w) :
  wpC P md ops Q S C (fuel + 1) listed a w:=by
 refine ⟨fun h0=>absurd (h0.symm.trans hr) (by simp),fun x hx=>?_⟩
 rw [hr] at hx
 have hx:x = i ∨ x = j:=by simpa using hx
 rcases hx with rfl | rfl
 ·exact wpOp_step hi fun K hK=>h K (Lib.hid hK)
 ·exact wpOp_step hj fun K hK=>h' K (Lib.hid hK)
theorem bSc (S:World→Prop) (C:List Nat) {id:Nat} {a:Act} {w:World} (hm:P.follows .mixedOrders = true) (h:∀ wd,Grow w wd→w.heap.size = wd.heap.size→wpC P .any ops Q S C ops.size (Array.replicate ops.size false) a wd):(Code.region id ops true).wp P Q a w:=
 wp_region_any hm (wpC_any _ _ _ _ (h w.drew ((Grow.refl _).drew) rfl))
end
theorem own_apart {α:Type} {T:Ty α} {c:CM} {w:World} {base e B:Nat} {v:Value} {l:List α} (h:OwnC T c w base e v l) (hB:B < base):v.ownBlock = none ∨ v.ownBlock ≠ some B:=by
 cases e:v.ownBlock with
 | none=>exact .inl rfl
 | some q=>exact .inr (by have:=(h.lt q e).1;intro e2;have:=Option.some.inj e2;omega)
theorem begin_full {h:Hd} {P:List Pt} (hf:fullE h = true):beginH h P = h∧beginM h P = []∧beginE h = 9:=by
 unfold beginH beginM beginE
 rw [if_pos hf,if_pos hf,if_pos hf]
 exact ⟨rfl,rfl,rfl⟩
theorem begin_go {h:Hd} {P:List Pt} (hf:fullE h = false):beginH h P = { h with opn:=h.opn ++ [newO h P],next:=h.next + 1 }∧beginM h P = asksE (newO h P)∧beginE h = 0:=by
 unfold beginH beginM beginE
 rw [if_neg (by simp [hf]),if_neg (by simp [hf]),if_neg (by simp [hf])]
 exact ⟨rfl,rfl,rfl⟩
set_option maxRecDepth 100000 in
set_option maxHeartbeats 4000000 in
theorem ref_begin {c:CM} {v vp:Value} {h:Hd} {P:List Pt} (w:World) (hc:Sub c w.cell?) (hv:Of Ty.hd c v h) (hp:Pts c vp P) (hk:HdOk h) (hP:P.length ≤ 4) :
  Calls Try.prog 111 #[v,vp] w fun e w'=>∃ v1 v2,e = .returned (.tuple #[v1,v2,.int .i64 (beginE h)])∧Of Ty.hd (ov c w w') v1 (beginH h P)∧Sl Ty.ms (ov c w w') v2 (beginM h P)∧Grow w w':=by
 obtain ⟨al,cl,ar,cr,rfl⟩:=hv.hd_form
 obtain ⟨ap,cp,rfl,-⟩:=id hp
 have HV:=Lib.hid hv
 have HLG:=Lib.hid (Of.hd_log hv).1
 have HOG:=Lib.hid (Of.hd_log hv).2
 have HPG:=Lib.hid hp
 have HIB:Hid (I64 h.boot∧I64 h.next):=Lib.hid (by obtain ⟨cs,he,_,_,rfl,_,h1,h2,_⟩:=hv;exact ⟨h1,h2⟩)
 have HL12:=Lib.hid hk.opn
 obtain ⟨hb0,hb1⟩:=hk.boot
 obtain ⟨hn0,hn1⟩:=hk.next
 have HC:=Lib.hid hc
 clear hk hv hp hc
 obtain ⟨wa,hwa⟩:∃ y:World,y = w.alloc (.cells #[.slice al h.log.length cl,.int .i64 h.boot,.int .i64 h.next,.slice ar h.opn.length cr] 57):=⟨_,rfl⟩
 obtain ⟨wz,hwz⟩:∃ y:World,y = wa.alloc (.cells #[.slice none 0 0,.int .i64 0,.int .i64 0,.slice none 0 0] 57):=⟨_,rfl⟩
 have hsz:wa.heap.size = w.heap.size + 1:=by rw [hwa];simp
 have R1:Hid (wz.heap[w.heap.size]? = some (.cells #[.slice al h.log.length cl,.int .i64 h.boot,.int .i64 h.next,.slice ar h.opn.length cr] 57 (0,0))):=Lib.hid (by rw [hwz,hwa];exact heap_later (row_new _ _) _)
 have R2:Hid (wz.heap[w.heap.size + 1]? = some (.cells #[.slice none 0 0,.int .i64 0,.int .i64 0,.slice none 0 0] 57 (0,0))):=Lib.hid (by rw [hwz,← hsz];exact row_new _ _)
 have G1:Hid (Grow w wz):=Lib.hid (by rw [hwz,hwa];exact ((Grow.refl w).alloc _).alloc _)
 have HZ:Hid (wz.heap.size = w.heap.size + 2):=Lib.hid (by rw [hwz,hwa];simp)
 by_cases hf1:11 < h.opn.length
 ·obtain ⟨e1,e2,e3⟩:=begin_full (P:=P) (show fullE h = true from decide_eq_true (.inl hf1))
  have HE1:=Lib.hid e1
  have HE2:=Lib.hid e2
  have HE3:=Lib.hid e3
  have hf1':(11:Int) < (h.opn.length:Int):=by omega
  clear e1 e2 e3 hf1
  go_enter Try.func111,Try.ntmps111
  go_upto_region 1 with fail
  rw [← hwa]
  try rw [hsz]
  rw [← hwz]
  clear hwa hwz hsz
  obtain ⟨c0,c1,c2,c3⟩:=cells4 R1.out
  have z1:w.heap.size < wz.heap.size:=(Array.getElem?_eq_some_iff.1 R1.out).1
  go_wp2_with (first | (refine wpList_store_row rfl (.tmp 4) (.tmp 17) rfl rfl rfl R2.out info_hd rfl rfl ?_))
  intro w7 r7 g7
  obtain ⟨p0,p1,p2,p3⟩:=cells4 r7
  clear c0 c1 c2 c3
  go_wp2
  refine bodyPost_ret (v:=.tuple #[.agg #[.slice al h.log.length cl,.int .i64 h.boot,.int .i64 h.next,.slice ar h.opn.length cr],.slice none 0 0,.int .i64 9]) (by simp [results,Try.results111,go_sem,p0,p1,p2,p3]) rfl ?_
  have G7:=G1.out.grown g7 (fun q hq=>by simp at hq;omega)
  rw [HE1.out,HE2.out,HE3.out]
  exact ⟨_,_,rfl,HV.out.mono (ov_in HC.out),Sl.nil _ _,G7⟩
 by_cases hf2:63 < h.next
 ·obtain ⟨e1,e2,e3⟩:=begin_full (P:=P) (show fullE h = true from decide_eq_true (.inr hf2))
  have HE1:=Lib.hid e1
  have HE2:=Lib.hid e2
  have HE3:=Lib.hid e3
  have hf1':¬ (11:Int) < (h.opn.length:Int):=by omega
  clear e1 e2 e3 hf1
  go_enter Try.func111,Try.ntmps111
  go_upto_region 1 with fail
  rw [← hwa]
  try rw [hsz]
  rw [← hwz]
  clear hwa hwz hsz
  obtain ⟨c0,c1,c2,c3⟩:=cells4 R1.out
  have z1:w.heap.size < wz.heap.size:=(Array.getElem?_eq_some_iff.1 R1.out).1
  go_wp2_with (first | (refine wpList_store_row rfl (.tmp 4) (.tmp 17) rfl rfl rfl R2.out info_hd rfl rfl ?_))
  intro w7 r7 g7
  obtain ⟨p0,p1,p2,p3⟩:=cells4 r7
  clear c0 c1 c2 c3
  go_wp2
  refine bodyPost_ret (v:=.tuple #[.agg #[.slice al h.log.length cl,.int .i64 h.boot,.int .i64 h.next,.slice ar h.opn.length cr],.slice none 0 0,.int .i64 9]) (by simp [results,Try.results111,go_sem,p0,p1,p2,p3]) rfl ?_
  have G7:=G1.out.grown g7 (fun q hq=>by simp at hq;omega)
  rw [HE1.out,HE2.out,HE3.out]
  exact ⟨_,_,rfl,HV.out.mono (ov_in HC.out),Sl.nil _ _,G7⟩
 obtain ⟨e1,e2,e3⟩:=begin_go (P:=P) (show fullE h = false from decide_eq_false (by omega))
 have HE1:=Lib.hid e1
 have HE2:=Lib.hid e2
 have HE3:=Lib.hid e3
 have hf1':¬ (11:Int) < (h.opn.length:Int):=by omega
 have hw1:IntKind.i64.wrap (64 * h.boot) = 64 * h.boot:=IntWalk.i64_in _ (by omega)
 have hw2:IntKind.i64.wrap (64 * h.boot + h.next) = 64 * h.boot + h.next:=IntWalk.i64_in _ (by omega)
 have hw3:IntKind.i64.wrap (h.next + 1) = h.next + 1:=IntWalk.i64_in _ (by omega)
 have HDI:Hid (I64 (64 * h.boot + h.next)):=Lib.hid (i64_of (by omega) (by omega))
 have HNI:Hid (I64 (h.next + 1)):=Lib.hid (i64_of (by omega) (by omega))
 clear e1 e2 e3 hf1
 go_enter Try.func111,Try.ntmps111
 go_upto_region 1 with fail
 rw [← hwa]
 try rw [hsz]
 rw [← hwz]
 clear hwa hwz hsz
 obtain ⟨c0,c1,c2,c3⟩:=cells4 R1.out
 have z1:w.heap.size < wz.heap.size:=(Array.getElem?_eq_some_iff.1 R1.out).1
 go_upto_region 4 with fail
 obtain ⟨dd,hdd⟩:∃ x,x = 64 * h.boot + h.next:=⟨_,rfl⟩
 rw [← hdd] at HDI ⊢
 have HDD:=Lib.hid hdd
 obtain ⟨wo3,hwo⟩:∃ y:World,y = wz.alloc (.cells #[.int .i64 dd,.slice ap P.length cp,.bool false,.slice none 0 0] 136):=⟨_,rfl⟩
 have R7:Hid (wo3.heap[w.heap.size + 2]? = some (.cells #[.int .i64 dd,.slice ap P.length cp,.bool false,.slice none 0 0] 136 (0,0))):=Lib.hid (by rw [hwo,← HZ.out];exact row_new _ _)
 have GZ:Hid (Grow wz wo3):=Lib.hid (by rw [hwo];exact (Grow.refl _).alloc _)
 have HZ3:Hid (wo3.heap.size = w.heap.size + 3):=Lib.hid (by rw [hwo];simp [HZ.out])
 rw [← hwo]
 try rw [HZ.out]
 clear hwo hdd hw1 hw2 c0 c1 c2 c3
 have R13:=Lib.hid (row_grow R1.out GZ.out)
 have R23:=Lib.hid (row_grow R2.out GZ.out)
 have GW3:=Lib.hid (G1.out.trans GZ.out)
 have HS:Hid (∀ W,Grow wo3 W→W.cell? ⟨w.heap.size,3,none⟩ = some (.slice ar h.opn.length cr)∧W.cell? ⟨w.heap.size + 2,0,none⟩ = some (.int .i64 dd)∧W.cell? ⟨w.heap.size + 2,1,none⟩ = some (.slice ap P.length cp)∧W.cell? ⟨w.heap.size + 2,2,none⟩ = some (.bool false)∧W.cell? ⟨w.heap.size + 2,3,none⟩ = some (.slice none 0 0)):=fun W hW=>by
  obtain ⟨-,-,-,k3⟩:=cells4 (row_grow R13.out hW)
  obtain ⟨j0,j1,j2,j3⟩:=cells4 (row_grow R7.out hW)
  exact ⟨k3,j0,j1,j2,j3⟩
 have HSRC:=Lib.hid (fun (W:World) (hW:Grow wo3 W)=>Src.of_sl_c (T:=Ty.opn) (by decide) (HC.out.trans (GW3.out.trans hW).sub) HOG.out)
 have HRO:Hid (Ty.opn.R c [.int .i64 dd,.slice ap P.length cp,.bool false,.slice none 0 0] ⟨dd,P,false,[]⟩):=Lib.hid ⟨_,_,rfl,HDI.out,HPG.out,Sl.nil _ _⟩
 refine but_start (fun w'=>w'.cell? ⟨w.heap.size,3,none⟩ = some (.slice ar h.opn.length cr)∧w'.cell? ⟨w.heap.size + 2,0,none⟩ = some (.int .i64 dd)∧w'.cell? ⟨w.heap.size + 2,1,none⟩ = some (.slice ap P.length cp)∧w'.cell? ⟨w.heap.size + 2,2,none⟩ = some (.bool false)∧w'.cell? ⟨w.heap.size + 2,3,none⟩ = some (.slice none 0 0)) 8 (by kernel_rfl) ?_
 obtain ⟨wd,hWd⟩:∃ x:World,x = wo3.drew:=⟨_,rfl⟩
 rw [← hWd]
 have GD:Grow wo3 wd:=by rw [hWd];exact (Grow.refl _).drew
 have zD:wo3.heap.size = wd.heap.size:=by rw [hWd];rfl
 have ZD:=Lib.hid zD
 clear hWd zD
 refine bLm [1,2,4] 12 (by kernel_rfl) (fun _ _ _ _ _ h=>h) (HS.out _ GD) ?_
 repeat (refine tNm (v:=?_) rfl (by rfl) ?_ ?_;rotate_left;(· (intro w' hSw;(try dsimp only at hSw);obtain ⟨hs0,hs1,hs2,hs3,hs4⟩:=hSw;go_simp <;> with_reducible rfl));try simp only [Act.put,lzA,lzB,lzC,lzD,lzE,lzF])
 refine tEm ?_
 refine bP 0 5 (by kernel_rfl) rfl rfl ?_ ?_
 ·intro K HK
  try simp only [lzA,lzC]
  go_simp
  refine HK.out _ _ ⟨fun _=>HS.out _ (GD.alloc _),?_⟩
  clear HK K
  try simp only [Act.put,lzA,lzB,lzC,lzD,lzE,lzF]
  refine bP 3 5 (by kernel_rfl) rfl rfl ?_ ?_
  ·intro K HK
   refine wanted_go rfl ?_
   try simp only [lzA,lzB,lzC]
   refine wp_appc (l:=[]) (m:=h.opn) (v:=.slice (some ⟨wd.heap.size,0,none⟩) 0 0) ei_opn rfl one_Topn (by decide) (.tmp 26) (.tmp 28) rfl rfl ((OwnC.made0 Ty.opn c _ wo3.heap.size _ (by have:=ZD.out;(try simp);omega) (by simp))) rfl (HSRC.out _ (GD.alloc _)) (by have:=HL12.out;simp;omega) (GD.alloc _).size ?_
   intro a3 c3 q3 ho3 hg3 hb3
   try simp only [List.length_nil,Nat.zero_add,List.nil_append] at ho3
   try simp only [List.length_nil,Nat.zero_add] at hb3
   try simp only [List.length_nil,Nat.zero_add]
   have G3:=grow_by (w0:=wo3) (GD.alloc _) hg3 (own_at (by have:=ZD.out;(try simp);omega))
   have B3:=Lib.hid (own_new (B:=wo3.heap.size) (GD.alloc _).size hb3 (own_at (by have:=ZD.out;(try simp);omega)))
   have HO3:=Lib.hid ho3
   have HG3:=Lib.hid hg3
   clear ho3 hg3 hb3
   refine HK.out _ _ ⟨fun _=>HS.out _ G3,?_⟩
   clear HK K
   try simp only [Act.put,lzD,lzE,lzF]
   refine bO 5 (by kernel_rfl) rfl ?_
   intro K HK
   try simp only [lzA,lzB,lzC]
   go_simp
   refine HK.out _ _ ⟨fun _=>HS.out _ (G3.alloc _),?_⟩
   clear HK K
   try simp only [Act.put,lzA,lzB,lzC,lzD,lzE,lzF]
   refine bO 6 (by kernel_rfl) rfl ?_
   intro K HK
   refine wanted_go rfl ?_
   try simp only [lzA,lzB,lzC]
   refine wp_appc (l:=h.opn) (m:=[⟨dd,P,false,[]⟩]) (v:=.slice a3 (h.opn.length) c3) ei_opn rfl one_Topn (by decide) (.tmp 29) (.tmp 31) rfl rfl ((HO3.out).grow ((Grow.refl _).alloc _)) rfl ((Src.of_new (T:=Ty.opn) (x:=⟨dd,P,false,[]⟩) (c:=c) (cs:=#[.int .i64 dd,.slice ap P.length cp,.bool false,.slice none 0 0]) HRO.out _ _ (by simp))) (by have:=HL12.out;simp;omega) (G3.alloc _).size ?_
   intro a6 c6 q6 ho6 hg6 hb6
   try simp only [List.length_nil,List.length_cons,Nat.zero_add] at ho6
   try simp only [List.length_nil,List.length_cons,Nat.zero_add] at hb6
   try simp only [List.length_nil,List.length_cons,Nat.zero_add]
   have G6:=grow_by (w0:=wo3) (G3.alloc _) hg6 B3.out
   have B6:=Lib.hid (own_new (B:=wo3.heap.size) (G3.alloc _).size hb6 B3.out)
   have HO6:=Lib.hid ho6
   have HG6:=Lib.hid hg6
   clear ho6 hg6 hb6
   refine HK.out _ _ ⟨fun _=>HS.out _ G6,?_⟩
   clear HK K
   try simp only [Act.put,lzD,lzE,lzF]
   refine bO 7 (by kernel_rfl) rfl ?_
   intro K HK
   try simp only [lzA,lzB,lzC]
   go_simp
   refine HK.out _ _ ⟨fun _=>HS.out _ G6,?_⟩
   clear HK K
   try simp only [Act.put,lzA,lzB,lzC,lzD,lzE,lzF]
   refine bO 8 (by kernel_rfl) rfl ?_
   intro K HK
   refine wanted_go rfl ?_
   try simp only [lzA,lzB,lzC]
   refine wp_store_cell (.tmp 33) (.tmp 32) (v:=.slice a6 (h.opn.length + 1) c6) (new:=#[.slice al h.log.length cl,.int .i64 h.boot,.int .i64 h.next,.slice a6 (h.opn.length + 1) c6]) rfl rfl (by rfl) (by rfl) (row_grow R13.out G6) info_opns (by simp) (by rfl) (by rfl) ?_
   intro w8 r8 g8
   have HR8:=Lib.hid r8
   have HG8:=Lib.hid g8
   have HO8:=Lib.hid (HO6.out.kept g8 (own_apart HO6.out (by have:=HZ3.out;omega)))
   have GG6:=Lib.hid G6
   clear r8 g8
   refine HK.out _ _ ⟨fun h=>absurd rfl h,?_⟩
   clear HK K
   try simp only [Act.put]
   refine but_done (by kernel_rfl) ?_
   go_upto_region 5 with fail
   have G8:=Lib.hid ((GW3.out.trans GG6.out).grown HG8.out (fun q hq=>by simp at hq;omega))
   have R28:=Lib.hid (row_by (row_grow R23.out GG6.out) HG8.out (by intro e;have:=Option.some.inj e;omega))
   have R78:=Lib.hid (row_by (row_grow R7.out GG6.out) HG8.out (by intro e;have:=Option.some.inj e;omega))
   obtain ⟨c0,c1,c2,c3⟩:=cells4 HR8.out
   have z8:w.heap.size < w8.heap.size:=(Array.getElem?_eq_some_iff.1 HR8.out).1
   go_wp2_with (first | (refine wpList_store_cell rfl (.tmp 37) (.tmp 36) (v:=.int .i64 (h.next + 1)) (new:=#[.slice al h.log.length cl,.int .i64 h.boot,.int .i64 (h.next + 1),.slice a6 (h.opn.length + 1) c6]) rfl rfl (by rfl) (by rfl) HR8.out info_int1 (by simp) (by rfl) (by rfl) ?_))
   intro w9 r9 g9
   have R9:=Lib.hid r9
   have G9:=Lib.hid (G8.out.grown g9 (fun q hq=>by simp at hq;omega))
   have R29:=Lib.hid (row_by R28.out g9 (by intro e;have:=Option.some.inj e;omega))
   have R79:=Lib.hid (row_by R78.out g9 (by intro e;have:=Option.some.inj e;omega))
   have HO9:=Lib.hid (HO8.out.kept g9 (own_apart HO8.out (by have:=HZ3.out;omega)))
   clear r9 g9 c0 c1 c2 c3
   have HAS:=Lib.hid (fun (W:World) (hW:Grow w9 W)=>ref_asks (v:=.agg #[.int .i64 dd,.slice ap P.length cp,.bool false,.slice none 0 0]) (o:=⟨dd,P,false,[]⟩) W ⟨_,rfl,_,_,rfl,HDI.out,HPG.out.mono (HC.out.trans (G9.out.trans hW).sub),Sl.nil _ _⟩ (by show P.length * 24 ≤ _;omega))
   have HS9:Hid (∀ W,Grow w9 W→W.cell? ⟨w.heap.size,0,none⟩ = some (.slice al h.log.length cl)∧W.cell? ⟨w.heap.size,1,none⟩ = some (.int .i64 h.boot)∧W.cell? ⟨w.heap.size,2,none⟩ = some (.int .i64 (h.next + 1))∧W.cell? ⟨w.heap.size,3,none⟩ = some (.slice a6 (h.opn.length + 1) c6)∧W.cell? ⟨w.heap.size + 2,0,none⟩ = some (.int .i64 dd)∧W.cell? ⟨w.heap.size + 2,1,none⟩ = some (.slice ap P.length cp)∧W.cell? ⟨w.heap.size + 2,2,none⟩ = some (.bool false)∧W.cell? ⟨w.heap.size + 2,3,none⟩ = some (.slice none 0 0)):=fun W hW=>by
    obtain ⟨k0,k1,k2,k3⟩:=cells4 (row_grow R9.out hW)
    obtain ⟨j0,j1,j2,j3⟩:=cells4 (row_grow R79.out hW)
    exact ⟨k0,k1,k2,k3,j0,j1,j2,j3⟩
   go_upto_region 6 with fail
   refine but_start (fun w'=>w'.cell? ⟨w.heap.size,0,none⟩ = some (.slice al h.log.length cl)∧w'.cell? ⟨w.heap.size,1,none⟩ = some (.int .i64 h.boot)∧w'.cell? ⟨w.heap.size,2,none⟩ = some (.int .i64 (h.next + 1))∧w'.cell? ⟨w.heap.size,3,none⟩ = some (.slice a6 (h.opn.length + 1) c6)∧w'.cell? ⟨w.heap.size + 2,0,none⟩ = some (.int .i64 dd)∧w'.cell? ⟨w.heap.size + 2,1,none⟩ = some (.slice ap P.length cp)∧w'.cell? ⟨w.heap.size + 2,2,none⟩ = some (.bool false)∧w'.cell? ⟨w.heap.size + 2,3,none⟩ = some (.slice none 0 0)) 5 (by kernel_rfl) ?_
   obtain ⟨we,hWd⟩:∃ x:World,x = w9.drew:=⟨_,rfl⟩
   rw [← hWd]
   have GE:Grow w9 we:=by rw [hWd];exact (Grow.refl _).drew
   have zD:w9.heap.size = we.heap.size:=by rw [hWd];rfl
   have ZD:=Lib.hid zD
   clear hWd zD
   have ZE6:Hid (w9.heap.size ≤ we.heap.size):=Lib.hid GE.size
   refine bLm [0] 8 (by kernel_rfl) (fun _ _ _ _ _ h=>h) (HS9.out _ GE) ?_
   repeat (refine tNm (v:=?_) rfl (by rfl) ?_ ?_;rotate_left;(· (intro w' hSw;(try dsimp only at hSw);obtain ⟨hs0,hs1,hs2,hs3,hs4,hs5,hs6,hs7⟩:=hSw;go_simp <;> with_reducible rfl));try simp only [Act.put,lzA,lzC,lzD,lzE,lzF])
   refine tEm ?_
   refine bLm [1] 8 (by kernel_rfl) (fun _ _ _ _ _ h=>h) (HS9.out _ GE) ?_
   repeat (refine tNm (v:=?_) rfl (by rfl) ?_ ?_;rotate_left;(· (intro w' hSw;(try dsimp only at hSw);obtain ⟨hs0,hs1,hs2,hs3,hs4,hs5,hs6,hs7⟩:=hSw;go_simp <;> with_reducible rfl));try simp only [Act.put,lzA,lzB,lzC,lzD,lzE,lzF])
   refine tEm ?_
   refine bO 2 (by kernel_rfl) rfl ?_
   intro K HK
   try simp only [lzA,lzB,lzC]
   go_simp
   go_at_call 155
   refine (HAS.out _ GE).mono ?_
   rintro e10 w10 ⟨v10,rfl,ho10,hb10⟩
   obtain ⟨a10,c10,rfl⟩:=ho10.form
   have HO10:=Lib.hid ho10
   have G10:=Lib.hid (Grow.trans GE hb10)
   clear ho10 hb10
   generalize hqa:asksE ⟨dd,P,false,[]⟩ = qa at *
   have HQA:=Lib.hid hqa
   clear hqa
   refine HK.out _ _ ⟨fun _=>HS9.out _ G10.out,?_⟩
   clear HK K
   try simp only [Act.put,lzA,lzB,lzC,lzD,lzE,lzF]
   refine bO 3 (by kernel_rfl) rfl ?_
   intro K HK
   refine wanted_go rfl ?_
   try simp only [lzA,lzB,lzC]
   refine wp_store_row (.tmp 4) (.tmp 38) rfl rfl rfl (row_grow R29.out G10.out) info_hd rfl rfl ?_
   intro w7 r7 g7
   have HR7:=Lib.hid r7
   have HG7:=Lib.hid g7
   clear r7 g7
   have HS7:Hid (w7.cell? ⟨w.heap.size,0,none⟩ = some (.slice al h.log.length cl)∧w7.cell? ⟨w.heap.size,1,none⟩ = some (.int .i64 h.boot)∧w7.cell? ⟨w.heap.size,2,none⟩ = some (.int .i64 (h.next + 1))∧w7.cell? ⟨w.heap.size,3,none⟩ = some (.slice a6 (h.opn.length + 1) c6)∧w7.cell? ⟨w.heap.size + 2,0,none⟩ = some (.int .i64 dd)∧w7.cell? ⟨w.heap.size + 2,1,none⟩ = some (.slice ap P.length cp)∧w7.cell? ⟨w.heap.size + 2,2,none⟩ = some (.bool false)∧w7.cell? ⟨w.heap.size + 2,3,none⟩ = some (.slice none 0 0)):=Lib.hid (by obtain ⟨k0,k1,k2,k3,k4,k5,k6,k7⟩:=HS9.out _ G10.out;exact ⟨cell_past k0 HG7.out (by show w.heap.size ≠ _;omega),cell_past k1 HG7.out (by show w.heap.size ≠ _;omega),cell_past k2 HG7.out (by show w.heap.size ≠ _;omega),cell_past k3 HG7.out (by show w.heap.size ≠ _;omega),cell_past k4 HG7.out (by show w.heap.size + 2 ≠ _;omega),cell_past k5 HG7.out (by show w.heap.size + 2 ≠ _;omega),cell_past k6 HG7.out (by show w.heap.size + 2 ≠ _;omega),cell_past k7 HG7.out (by show w.heap.size + 2 ≠ _;omega)⟩)
   refine HK.out _ _ ⟨fun _=>HS7.out,?_⟩
   clear HK K
   try simp only [Act.put]
   refine bO 4 (by kernel_rfl) rfl ?_
   intro K HK
   try simp only [lzA,lzB,lzC]
   go_simp
   refine HK.out _ _ ⟨fun _=>HS7.out,?_⟩
   clear HK K
   try simp only [Act.put,lzA,lzB,lzC,lzD,lzE,lzF]
   refine bO 5 (by kernel_rfl) rfl ?_
   intro K HK
   try simp only [lzA,lzB,lzC]
   go_simp
   refine HK.out _ _ ⟨fun h=>absurd rfl h,?_⟩
   clear HK K
   try simp only [Act.put,lzA,lzB,lzC,lzD,lzE,lzF]
   refine but_done (by kernel_rfl) ?_
   obtain ⟨p0,p1,p2,p3⟩:=cells4 HR7.out
   go_wp2
   refine bodyPost_ret (v:=.tuple #[.agg #[.slice al h.log.length cl,.int .i64 h.boot,.int .i64 (h.next + 1),.slice a6 (h.opn.length + 1) c6],.slice a10 qa.length c10,.int .i64 0]) (by simp [results,Try.results111,go_sem,p0,p1,p2,p3]) rfl ?_
   have G7:=(G9.out.trans G10.out).grown HG7.out (fun q hq=>by simp at hq;omega)
   rw [HE1.out,HE2.out,HE3.out]
   refine ⟨_,_,rfl,⟨_,rfl,_,_,rfl,HLG.out.mono (ov_in HC.out),HIB.out.1,HNI.out,?_⟩,?_,G7⟩
   ·have h9:=(HO9.out.grow G10.out).kept HG7.out (own_apart (HO9.out.grow G10.out) (by have:=HZ3.out;omega))
    have h8:=OwnC.slc (d:=ov c w w7) (by decide) h9 (ov_in HC.out) fun a ha=>ov_new (by have:=HZ3.out;omega)
    have e8:newO h P = ⟨dd,P,false,[]⟩:=by unfold newO;rw [← HDD.out]
    rw [e8]
    exact h8
   ·rw [show newO h P = ⟨dd,P,false,[]⟩ by unfold newO;rw [← HDD.out],HQA.out]
    refine OwnC.slc (d:=ov c w w7) (by decide) (HO10.out.kept HG7.out (own_apart HO10.out (by have:=(Array.getElem?_eq_some_iff.1 R79.out).1;have:=ZE6.out;omega))) (fun a v e=>?_) fun a ha=>ov_new (by have:=(Array.getElem?_eq_some_iff.1 R79.out).1;have:=ZE6.out;omega)
    unfold fr at e
    split at e
    ·cases e
    ·rename_i hn
     have h1:¬ a.block < we.heap.size:=fun hx=>hn (.inl hx)
     have:=(Array.getElem?_eq_some_iff.1 R79.out).1
     have:=ZE6.out
     rw [ov_new (by omega)]
     exact cell_past e HG7.out (by omega)
  ·intro K HK
   try simp only [lzA,lzB,lzC]
   go_simp
   refine HK.out _ _ ⟨fun _=>HS.out _ ((GD.alloc _).alloc _),?_⟩
   clear HK K
   try simp only [Act.put,lzA,lzB,lzC,lzD,lzE,lzF]
   refine bO 3 (by kernel_rfl) rfl ?_
   intro K HK
   refine wanted_go rfl ?_
   try simp only [lzA,lzB,lzC]
   refine wp_appc (l:=[]) (m:=h.opn) (v:=.slice (some ⟨wd.heap.size,0,none⟩) 0 0) ei_opn rfl one_Topn (by decide) (.tmp 26) (.tmp 28) rfl rfl (((OwnC.made0 Ty.opn c _ wo3.heap.size _ (by have:=ZD.out;(try simp);omega) (by simp))).grow ((Grow.refl _).alloc _)) rfl (HSRC.out _ ((GD.alloc _).alloc _)) (by have:=HL12.out;simp;omega) ((GD.alloc _).alloc _).size ?_
   intro a3 c3 q3 ho3 hg3 hb3
   try simp only [List.length_nil,Nat.zero_add,List.nil_append] at ho3
   try simp only [List.length_nil,Nat.zero_add] at hb3
   try simp only [List.length_nil,Nat.zero_add]
   have G3:=grow_by (w0:=wo3) ((GD.alloc _).alloc _) hg3 (own_at (by have:=ZD.out;(try simp);omega))
   have B3:=Lib.hid (own_new (B:=wo3.heap.size) ((GD.alloc _).alloc _).size hb3 (own_at (by have:=ZD.out;(try simp);omega)))
   have HO3:=Lib.hid ho3
   have HG3:=Lib.hid hg3
   clear ho3 hg3 hb3
   refine HK.out _ _ ⟨fun _=>HS.out _ G3,?_⟩
   clear HK K
   try simp only [Act.put,lzD,lzE,lzF]
   refine bO 6 (by kernel_rfl) rfl ?_
   intro K HK
   refine wanted_go rfl ?_
   try simp only [lzA,lzB,lzC]
   refine wp_appc (l:=h.opn) (m:=[⟨dd,P,false,[]⟩]) (v:=.slice a3 (h.opn.length) c3) ei_opn rfl one_Topn (by decide) (.tmp 29) (.tmp 31) rfl rfl (HO3.out) rfl (((Src.of_new (T:=Ty.opn) (x:=⟨dd,P,false,[]⟩) (c:=c) (cs:=#[.int .i64 dd,.slice ap P.length cp,.bool false,.slice none 0 0]) HRO.out _ _ (by simp))).kept HG3.out (by simp [Value.ownBlock])) (by have:=HL12.out;simp;omega) G3.size ?_
   intro a6 c6 q6 ho6 hg6 hb6
   try simp only [List.length_nil,List.length_cons,Nat.zero_add] at ho6
   try simp only [List.length_nil,List.length_cons,Nat.zero_add] at hb6
   try simp only [List.length_nil,List.length_cons,Nat.zero_add]
   have G6:=grow_by (w0:=wo3) G3 hg6 B3.out
   have B6:=Lib.hid (own_new (B:=wo3.heap.size) G3.size hb6 B3.out)
   have HO6:=Lib.hid ho6
   have HG6:=Lib.hid hg6
   clear ho6 hg6 hb6
   refine HK.out _ _ ⟨fun _=>HS.out _ G6,?_⟩
   clear HK K
   try simp only [Act.put,lzD,lzE,lzF]
   refine bO 7 (by kernel_rfl) rfl ?_
   intro K HK
   try simp only [lzA,lzB,lzC]
   go_simp
   refine HK.out _ _ ⟨fun _=>HS.out _ G6,?_⟩
   clear HK K
   try simp only [Act.put,lzA,lzB,lzC,lzD,lzE,lzF]
   refine bO 8 (by kernel_rfl) rfl ?_
   intro K HK
   refine wanted_go rfl ?_
   try simp only [lzA,lzB,lzC]
   refine wp_store_cell (.tmp 33) (.tmp 32) (v:=.slice a6 (h.opn.length + 1) c6) (new:=#[.slice al h.log.length cl,.int .i64 h.boot,.int .i64 h.next,.slice a6 (h.opn.length + 1) c6]) rfl rfl (by rfl) (by rfl) (row_grow R13.out G6) info_opns (by simp) (by rfl) (by rfl) ?_
   intro w8 r8 g8
   have HR8:=Lib.hid r8
   have HG8:=Lib.hid g8
   have HO8:=Lib.hid (HO6.out.kept g8 (own_apart HO6.out (by have:=HZ3.out;omega)))
   have GG6:=Lib.hid G6
   clear r8 g8
   refine HK.out _ _ ⟨fun h=>absurd rfl h,?_⟩
   clear HK K
   try simp only [Act.put]
   refine but_done (by kernel_rfl) ?_
   go_upto_region 5 with fail
   have G8:=Lib.hid ((GW3.out.trans GG6.out).grown HG8.out (fun q hq=>by simp at hq;omega))
   have R28:=Lib.hid (row_by (row_grow R23.out GG6.out) HG8.out (by intro e;have:=Option.some.inj e;omega))
   have R78:=Lib.hid (row_by (row_grow R7.out GG6.out) HG8.out (by intro e;have:=Option.some.inj e;omega))
   obtain ⟨c0,c1,c2,c3⟩:=cells4 HR8.out
   have z8:w.heap.size < w8.heap.size:=(Array.getElem?_eq_some_iff.1 HR8.out).1
   go_wp2_with (first | (refine wpList_store_cell rfl (.tmp 37) (.tmp 36) (v:=.int .i64 (h.next + 1)) (new:=#[.slice al h.log.length cl,.int .i64 h.boot,.int .i64 (h.next + 1),.slice a6 (h.opn.length + 1) c6]) rfl rfl (by rfl) (by rfl) HR8.out info_int1 (by simp) (by rfl) (by rfl) ?_))
   intro w9 r9 g9
   have R9:=Lib.hid r9
   have G9:=Lib.hid (G8.out.grown g9 (fun q hq=>by simp at hq;omega))
   have R29:=Lib.hid (row_by R28.out g9 (by intro e;have:=Option.some.inj e;omega))
   have R79:=Lib.hid (row_by R78.out g9 (by intro e;have:=Option.some.inj e;omega))
   have HO9:=Lib.hid (HO8.out.kept g9 (own_apart HO8.out (by have:=HZ3.out;omega)))
   clear r9 g9 c0 c1 c2 c3
   have HAS:=Lib.hid (fun (W:World) (hW:Grow w9 W)=>ref_asks (v:=.agg #[.int .i64 dd,.slice ap P.length cp,.bool false,.slice none 0 0]) (o:=⟨dd,P,false,[]⟩) W ⟨_,rfl,_,_,rfl,HDI.out,HPG.out.mono (HC.out.trans (G9.out.trans hW).sub),Sl.nil _ _⟩ (by show P.length * 24 ≤ _;omega))
   have HS9:Hid (∀ W,Grow w9 W→W.cell? ⟨w.heap.size,0,none⟩ = some (.slice al h.log.length cl)∧W.cell? ⟨w.heap.size,1,none⟩ = some (.int .i64 h.boot)∧W.cell? ⟨w.heap.size,2,none⟩ = some (.int .i64 (h.next + 1))∧W.cell? ⟨w.heap.size,3,none⟩ = some (.slice a6 (h.opn.length + 1) c6)∧W.cell? ⟨w.heap.size + 2,0,none⟩ = some (.int .i64 dd)∧W.cell? ⟨w.heap.size + 2,1,none⟩ = some (.slice ap P.length cp)∧W.cell? ⟨w.heap.size + 2,2,none⟩ = some (.bool false)∧W.cell? ⟨w.heap.size + 2,3,none⟩ = some (.slice none 0 0)):=fun W hW=>by
    obtain ⟨k0,k1,k2,k3⟩:=cells4 (row_grow R9.out hW)
    obtain ⟨j0,j1,j2,j3⟩:=cells4 (row_grow R79.out hW)
    exact ⟨k0,k1,k2,k3,j0,j1,j2,j3⟩
   go_upto_region 6 with fail
   refine but_start (fun w'=>w'.cell? ⟨w.heap.size,0,none⟩ = some (.slice al h.log.length cl)∧w'.cell? ⟨w.heap.size,1,none⟩ = some (.int .i64 h.boot)∧w'.cell? ⟨w.heap.size,2,none⟩ = some (.int .i64 (h.next + 1))∧w'.cell? ⟨w.heap.size,3,none⟩ = some (.slice a6 (h.opn.length + 1) c6)∧w'.cell? ⟨w.heap.size + 2,0,none⟩ = some (.int .i64 dd)∧w'.cell? ⟨w.heap.size + 2,1,none⟩ = some (.slice ap P.length cp)∧w'.cell? ⟨w.heap.size + 2,2,none⟩ = some (.bool false)∧w'.cell? ⟨w.heap.size + 2,3,none⟩ = some (.slice none 0 0)) 5 (by kernel_rfl) ?_
   obtain ⟨we,hWd⟩:∃ x:World,x = w9.drew:=⟨_,rfl⟩
   rw [← hWd]
   have GE:Grow w9 we:=by rw [hWd];exact (Grow.refl _).drew
   have zD:w9.heap.size = we.heap.size:=by rw [hWd];rfl
   have ZD:=Lib.hid zD
   clear hWd zD
   have ZE6:Hid (w9.heap.size ≤ we.heap.size):=Lib.hid GE.size
   refine bLm [0] 8 (by kernel_rfl) (fun _ _ _ _ _ h=>h) (HS9.out _ GE) ?_
   repeat (refine tNm (v:=?_) rfl (by rfl) ?_ ?_;rotate_left;(· (intro w' hSw;(try dsimp only at hSw);obtain ⟨hs0,hs1,hs2,hs3,hs4,hs5,hs6,hs7⟩:=hSw;go_simp <;> with_reducible rfl));try simp only [Act.put,lzA,lzC,lzD,lzE,lzF])
   refine tEm ?_
   refine bLm [1] 8 (by kernel_rfl) (fun _ _ _ _ _ h=>h) (HS9.out _ GE) ?_
   repeat (refine tNm (v:=?_) rfl (by rfl) ?_ ?_;rotate_left;(· (intro w' hSw;(try dsimp only at hSw);obtain ⟨hs0,hs1,hs2,hs3,hs4,hs5,hs6,hs7⟩:=hSw;go_simp <;> with_reducible rfl));try simp only [Act.put,lzA,lzB,lzC,lzD,lzE,lzF])
   refine tEm ?_
   refine bO 2 (by kernel_rfl) rfl ?_
   intro K HK
   try simp only [lzA,lzB,lzC]
   go_simp
   go_at_call 155
   refine (HAS.out _ GE).mono ?_
   rintro e10 w10 ⟨v10,rfl,ho10,hb10⟩
   obtain ⟨a10,c10,rfl⟩:=ho10.form
   have HO10:=Lib.hid ho10
   have G10:=Lib.hid (Grow.trans GE hb10)
   clear ho10 hb10
   generalize hqa:asksE ⟨dd,P,false,[]⟩ = qa at *
   have HQA:=Lib.hid hqa
   clear hqa
   refine HK.out _ _ ⟨fun _=>HS9.out _ G10.out,?_⟩
   clear HK K
   try simp only [Act.put,lzA,lzB,lzC,lzD,lzE,lzF]
   refine bO 3 (by kernel_rfl) rfl ?_
   intro K HK
   refine wanted_go rfl ?_
   try simp only [lzA,lzB,lzC]
   refine wp_store_row (.tmp 4) (.tmp 38) rfl rfl rfl (row_grow R29.out G10.out) info_hd rfl rfl ?_
   intro w7 r7 g7
   have HR7:=Lib.hid r7
   have HG7:=Lib.hid g7
   clear r7 g7
   have HS7:Hid (w7.cell? ⟨w.heap.size,0,none⟩ = some (.slice al h.log.length cl)∧w7.cell? ⟨w.heap.size,1,none⟩ = some (.int .i64 h.boot)∧w7.cell? ⟨w.heap.size,2,none⟩ = some (.int .i64 (h.next + 1))∧w7.cell? ⟨w.heap.size,3,none⟩ = some (.slice a6 (h.opn.length + 1) c6)∧w7.cell? ⟨w.heap.size + 2,0,none⟩ = some (.int .i64 dd)∧w7.cell? ⟨w.heap.size + 2,1,none⟩ = some (.slice ap P.length cp)∧w7.cell? ⟨w.heap.size + 2,2,none⟩ = some (.bool false)∧w7.cell? ⟨w.heap.size + 2,3,none⟩ = some (.slice none 0 0)):=Lib.hid (by obtain ⟨k0,k1,k2,k3,k4,k5,k6,k7⟩:=HS9.out _ G10.out;exact ⟨cell_past k0 HG7.out (by show w.heap.size ≠ _;omega),cell_past k1 HG7.out (by show w.heap.size ≠ _;omega),cell_past k2 HG7.out (by show w.heap.size ≠ _;omega),cell_past k3 HG7.out (by show w.heap.size ≠ _;omega),cell_past k4 HG7.out (by show w.heap.size + 2 ≠ _;omega),cell_past k5 HG7.out (by show w.heap.size + 2 ≠ _;omega),cell_past k6 HG7.out (by show w.heap.size + 2 ≠ _;omega),cell_past k7 HG7.out (by show w.heap.size + 2 ≠ _;omega)⟩)
   refine HK.out _ _ ⟨fun _=>HS7.out,?_⟩
   clear HK K
   try simp only [Act.put]
   refine bO 4 (by kernel_rfl) rfl ?_
   intro K HK
   try simp only [lzA,lzB,lzC]
   go_simp
   refine HK.out _ _ ⟨fun _=>HS7.out,?_⟩
   clear HK K
   try simp only [Act.put,lzA,lzB,lzC,lzD,lzE,lzF]
   refine bO 5 (by kernel_rfl) rfl ?_
   intro K HK
   try simp only [lzA,lzB,lzC]
   go_simp
   refine HK.out _ _ ⟨fun h=>absurd rfl h,?_⟩
   clear HK K
   try simp only [Act.put,lzA,lzB,lzC,lzD,lzE,lzF]
   refine but_done (by kernel_rfl) ?_
   obtain ⟨p0,p1,p2,p3⟩:=cells4 HR7.out
   go_wp2
   refine bodyPost_ret (v:=.tuple #[.agg #[.slice al h.log.length cl,.int .i64 h.boot,.int .i64 (h.next + 1),.slice a6 (h.opn.length + 1) c6],.slice a10 qa.length c10,.int .i64 0]) (by simp [results,Try.results111,go_sem,p0,p1,p2,p3]) rfl ?_
   have G7:=(G9.out.trans G10.out).grown HG7.out (fun q hq=>by simp at hq;omega)
   rw [HE1.out,HE2.out,HE3.out]
   refine ⟨_,_,rfl,⟨_,rfl,_,_,rfl,HLG.out.mono (ov_in HC.out),HIB.out.1,HNI.out,?_⟩,?_,G7⟩
   ·have h9:=(HO9.out.grow G10.out).kept HG7.out (own_apart (HO9.out.grow G10.out) (by have:=HZ3.out;omega))
    have h8:=OwnC.slc (d:=ov c w w7) (by decide) h9 (ov_in HC.out) fun a ha=>ov_new (by have:=HZ3.out;omega)
    have e8:newO h P = ⟨dd,P,false,[]⟩:=by unfold newO;rw [← HDD.out]
    rw [e8]
    exact h8
   ·rw [show newO h P = ⟨dd,P,false,[]⟩ by unfold newO;rw [← HDD.out],HQA.out]
    refine OwnC.slc (d:=ov c w w7) (by decide) (HO10.out.kept HG7.out (own_apart HO10.out (by have:=(Array.getElem?_eq_some_iff.1 R79.out).1;have:=ZE6.out;omega))) (fun a v e=>?_) fun a ha=>ov_new (by have:=(Array.getElem?_eq_some_iff.1 R79.out).1;have:=ZE6.out;omega)
    unfold fr at e
    split at e
    ·cases e
    ·rename_i hn
     have h1:¬ a.block < we.heap.size:=fun hx=>hn (.inl hx)
     have:=(Array.getElem?_eq_some_iff.1 R79.out).1
     have:=ZE6.out
     rw [ov_new (by omega)]
     exact cell_past e HG7.out (by omega)
 ·intro K HK
  try simp only [lzA,lzB,lzC]
  go_simp
  refine HK.out _ _ ⟨fun _=>HS.out _ (GD.alloc _),?_⟩
  clear HK K
  try simp only [Act.put,lzA,lzB,lzC,lzD,lzE,lzF]
  refine bO 0 (by kernel_rfl) rfl ?_
  intro K HK
  try simp only [lzA,lzC]
  go_simp
  refine HK.out _ _ ⟨fun _=>HS.out _ ((GD.alloc _).alloc _),?_⟩
  clear HK K
  try simp only [Act.put,lzA,lzB,lzC,lzD,lzE,lzF]
  refine bO 3 (by kernel_rfl) rfl ?_
  intro K HK
  refine wanted_go rfl ?_
  try simp only [lzA,lzB,lzC]
  refine wp_appc (l:=[]) (m:=h.opn) (v:=.slice (some ⟨wd.heap.size + 1,0,none⟩) 0 0) ei_opn rfl one_Topn (by decide) (.tmp 26) (.tmp 28) rfl rfl ((OwnC.made0 Ty.opn c _ wo3.heap.size _ (by have:=ZD.out;(try simp);omega) (by simp))) rfl (HSRC.out _ ((GD.alloc _).alloc _)) (by have:=HL12.out;simp;omega) ((GD.alloc _).alloc _).size ?_
  intro a3 c3 q3 ho3 hg3 hb3
  try simp only [List.length_nil,Nat.zero_add,List.nil_append] at ho3
  try simp only [List.length_nil,Nat.zero_add] at hb3
  try simp only [List.length_nil,Nat.zero_add]
  have G3:=grow_by (w0:=wo3) ((GD.alloc _).alloc _) hg3 (own_at (by have:=ZD.out;(try simp);omega))
  have B3:=Lib.hid (own_new (B:=wo3.heap.size) ((GD.alloc _).alloc _).size hb3 (own_at (by have:=ZD.out;(try simp);omega)))
  have HO3:=Lib.hid ho3
  have HG3:=Lib.hid hg3
  clear ho3 hg3 hb3
  refine HK.out _ _ ⟨fun _=>HS.out _ G3,?_⟩
  clear HK K
  try simp only [Act.put,lzD,lzE,lzF]
  refine bO 6 (by kernel_rfl) rfl ?_
  intro K HK
  refine wanted_go rfl ?_
  try simp only [lzA,lzB,lzC]
  refine wp_appc (l:=h.opn) (m:=[⟨dd,P,false,[]⟩]) (v:=.slice a3 (h.opn.length) c3) ei_opn rfl one_Topn (by decide) (.tmp 29) (.tmp 31) rfl rfl (HO3.out) rfl ((((Src.of_new (T:=Ty.opn) (x:=⟨dd,P,false,[]⟩) (c:=c) (cs:=#[.int .i64 dd,.slice ap P.length cp,.bool false,.slice none 0 0]) HRO.out _ _ (by simp))).grow ((Grow.refl _).alloc _)).kept HG3.out (by simp [Value.ownBlock])) (by have:=HL12.out;simp;omega) G3.size ?_
  intro a6 c6 q6 ho6 hg6 hb6
  try simp only [List.length_nil,List.length_cons,Nat.zero_add] at ho6
  try simp only [List.length_nil,List.length_cons,Nat.zero_add] at hb6
  try simp only [List.length_nil,List.length_cons,Nat.zero_add]
  have G6:=grow_by (w0:=wo3) G3 hg6 B3.out
  have B6:=Lib.hid (own_new (B:=wo3.heap.size) G3.size hb6 B3.out)
  have HO6:=Lib.hid ho6
  have HG6:=Lib.hid hg6
  clear ho6 hg6 hb6
  refine HK.out _ _ ⟨fun _=>HS.out _ G6,?_⟩
  clear HK K
  try simp only [Act.put,lzD,lzE,lzF]
  refine bO 7 (by kernel_rfl) rfl ?_
  intro K HK
  try simp only [lzA,lzB,lzC]
  go_simp
  refine HK.out _ _ ⟨fun _=>HS.out _ G6,?_⟩
  clear HK K
  try simp only [Act.put,lzA,lzB,lzC,lzD,lzE,lzF]
  refine bO 8 (by kernel_rfl) rfl ?_
  intro K HK
  refine wanted_go rfl ?_
  try simp only [lzA,lzB,lzC]
  refine wp_store_cell (.tmp 33) (.tmp 32) (v:=.slice a6 (h.opn.length + 1) c6) (new:=#[.slice al h.log.length cl,.int .i64 h.boot,.int .i64 h.next,.slice a6 (h.opn.length + 1) c6]) rfl rfl (by rfl) (by rfl) (row_grow R13.out G6) info_opns (by simp) (by rfl) (by rfl) ?_
  intro w8 r8 g8
  have HR8:=Lib.hid r8
  have HG8:=Lib.hid g8
  have HO8:=Lib.hid (HO6.out.kept g8 (own_apart HO6.out (by have:=HZ3.out;omega)))
  have GG6:=Lib.hid G6
  clear r8 g8
  refine HK.out _ _ ⟨fun h=>absurd rfl h,?_⟩
  clear HK K
  try simp only [Act.put]
  refine but_done (by kernel_rfl) ?_
  go_upto_region 5 with fail
  have G8:=Lib.hid ((GW3.out.trans GG6.out).grown HG8.out (fun q hq=>by simp at hq;omega))
  have R28:=Lib.hid (row_by (row_grow R23.out GG6.out) HG8.out (by intro e;have:=Option.some.inj e;omega))
  have R78:=Lib.hid (row_by (row_grow R7.out GG6.out) HG8.out (by intro e;have:=Option.some.inj e;omega))
  obtain ⟨c0,c1,c2,c3⟩:=cells4 HR8.out
  have z8:w.heap.size < w8.heap.size:=(Array.getElem?_eq_some_iff.1 HR8.out).1
  go_wp2_with (first | (refine wpList_store_cell rfl (.tmp 37) (.tmp 36) (v:=.int .i64 (h.next + 1)) (new:=#[.slice al h.log.length cl,.int .i64 h.boot,.int .i64 (h.next + 1),.slice a6 (h.opn.length + 1) c6]) rfl rfl (by rfl) (by rfl) HR8.out info_int1 (by simp) (by rfl) (by rfl) ?_))
  intro w9 r9 g9
  have R9:=Lib.hid r9
  have G9:=Lib.hid (G8.out.grown g9 (fun q hq=>by simp at hq;omega))
  have R29:=Lib.hid (row_by R28.out g9 (by intro e;have:=Option.some.inj e;omega))
  have R79:=Lib.hid (row_by R78.out g9 (by intro e;have:=Option.some.inj e;omega))
  have HO9:=Lib.hid (HO8.out.kept g9 (own_apart HO8.out (by have:=HZ3.out;omega)))
  clear r9 g9 c0 c1 c2 c3
  have HAS:=Lib.hid (fun (W:World) (hW:Grow w9 W)=>ref_asks (v:=.agg #[.int .i64 dd,.slice ap P.length cp,.bool false,.slice none 0 0]) (o:=⟨dd,P,false,[]⟩) W ⟨_,rfl,_,_,rfl,HDI.out,HPG.out.mono (HC.out.trans (G9.out.trans hW).sub),Sl.nil _ _⟩ (by show P.length * 24 ≤ _;omega))
  have HS9:Hid (∀ W,Grow w9 W→W.cell? ⟨w.heap.size,0,none⟩ = some (.slice al h.log.length cl)∧W.cell? ⟨w.heap.size,1,none⟩ = some (.int .i64 h.boot)∧W.cell? ⟨w.heap.size,2,none⟩ = some (.int .i64 (h.next + 1))∧W.cell? ⟨w.heap.size,3,none⟩ = some (.slice a6 (h.opn.length + 1) c6)∧W.cell? ⟨w.heap.size + 2,0,none⟩ = some (.int .i64 dd)∧W.cell? ⟨w.heap.size + 2,1,none⟩ = some (.slice ap P.length cp)∧W.cell? ⟨w.heap.size + 2,2,none⟩ = some (.bool false)∧W.cell? ⟨w.heap.size + 2,3,none⟩ = some (.slice none 0 0)):=fun W hW=>by
   obtain ⟨k0,k1,k2,k3⟩:=cells4 (row_grow R9.out hW)
   obtain ⟨j0,j1,j2,j3⟩:=cells4 (row_grow R79.out hW)
   exact ⟨k0,k1,k2,k3,j0,j1,j2,j3⟩
  go_upto_region 6 with fail
  refine but_start (fun w'=>w'.cell? ⟨w.heap.size,0,none⟩ = some (.slice al h.log.length cl)∧w'.cell? ⟨w.heap.size,1,none⟩ = some (.int .i64 h.boot)∧w'.cell? ⟨w.heap.size,2,none⟩ = some (.int .i64 (h.next + 1))∧w'.cell? ⟨w.heap.size,3,none⟩ = some (.slice a6 (h.opn.length + 1) c6)∧w'.cell? ⟨w.heap.size + 2,0,none⟩ = some (.int .i64 dd)∧w'.cell? ⟨w.heap.size + 2,1,none⟩ = some (.slice ap P.length cp)∧w'.cell? ⟨w.heap.size + 2,2,none⟩ = some (.bool false)∧w'.cell? ⟨w.heap.size + 2,3,none⟩ = some (.slice none 0 0)) 5 (by kernel_rfl) ?_
  obtain ⟨we,hWd⟩:∃ x:World,x = w9.drew:=⟨_,rfl⟩
  rw [← hWd]
  have GE:Grow w9 we:=by rw [hWd];exact (Grow.refl _).drew
  have zD:w9.heap.size = we.heap.size:=by rw [hWd];rfl
  have ZD:=Lib.hid zD
  clear hWd zD
  have ZE6:Hid (w9.heap.size ≤ we.heap.size):=Lib.hid GE.size
  refine bLm [0] 8 (by kernel_rfl) (fun _ _ _ _ _ h=>h) (HS9.out _ GE) ?_
  repeat (refine tNm (v:=?_) rfl (by rfl) ?_ ?_;rotate_left;(· (intro w' hSw;(try dsimp only at hSw);obtain ⟨hs0,hs1,hs2,hs3,hs4,hs5,hs6,hs7⟩:=hSw;go_simp <;> with_reducible rfl));try simp only [Act.put,lzA,lzC,lzD,lzE,lzF])
  refine tEm ?_
  refine bLm [1] 8 (by kernel_rfl) (fun _ _ _ _ _ h=>h) (HS9.out _ GE) ?_
  repeat (refine tNm (v:=?_) rfl (by rfl) ?_ ?_;rotate_left;(· (intro w' hSw;(try dsimp only at hSw);obtain ⟨hs0,hs1,hs2,hs3,hs4,hs5,hs6,hs7⟩:=hSw;go_simp <;> with_reducible rfl));try simp only [Act.put,lzA,lzB,lzC,lzD,lzE,lzF])
  refine tEm ?_
  refine bO 2 (by kernel_rfl) rfl ?_
  intro K HK
  try simp only [lzA,lzB,lzC]
  go_simp
  go_at_call 155
  refine (HAS.out _ GE).mono ?_
  rintro e10 w10 ⟨v10,rfl,ho10,hb10⟩
  obtain ⟨a10,c10,rfl⟩:=ho10.form
  have HO10:=Lib.hid ho10
  have G10:=Lib.hid (Grow.trans GE hb10)
  clear ho10 hb10
  generalize hqa:asksE ⟨dd,P,false,[]⟩ = qa at *
  have HQA:=Lib.hid hqa
  clear hqa
  refine HK.out _ _ ⟨fun _=>HS9.out _ G10.out,?_⟩
  clear HK K
  try simp only [Act.put,lzA,lzB,lzC,lzD,lzE,lzF]
  refine bO 3 (by kernel_rfl) rfl ?_
  intro K HK
  refine wanted_go rfl ?_
  try simp only [lzA,lzB,lzC]
  refine wp_store_row (.tmp 4) (.tmp 38) rfl rfl rfl (row_grow R29.out G10.out) info_hd rfl rfl ?_
  intro w7 r7 g7
  have HR7:=Lib.hid r7
  have HG7:=Lib.hid g7
  clear r7 g7
  have HS7:Hid (w7.cell? ⟨w.heap.size,0,none⟩ = some (.slice al h.log.length cl)∧w7.cell? ⟨w.heap.size,1,none⟩ = some (.int .i64 h.boot)∧w7.cell? ⟨w.heap.size,2,none⟩ = some (.int .i64 (h.next + 1))∧w7.cell? ⟨w.heap.size,3,none⟩ = some (.slice a6 (h.opn.length + 1) c6)∧w7.cell? ⟨w.heap.size + 2,0,none⟩ = some (.int .i64 dd)∧w7.cell? ⟨w.heap.size + 2,1,none⟩ = some (.slice ap P.length cp)∧w7.cell? ⟨w.heap.size + 2,2,none⟩ = some (.bool false)∧w7.cell? ⟨w.heap.size + 2,3,none⟩ = some (.slice none 0 0)):=Lib.hid (by obtain ⟨k0,k1,k2,k3,k4,k5,k6,k7⟩:=HS9.out _ G10.out;exact ⟨cell_past k0 HG7.out (by show w.heap.size ≠ _;omega),cell_past k1 HG7.out (by show w.heap.size ≠ _;omega),cell_past k2 HG7.out (by show w.heap.size ≠ _;omega),cell_past k3 HG7.out (by show w.heap.size ≠ _;omega),cell_past k4 HG7.out (by show w.heap.size + 2 ≠ _;omega),cell_past k5 HG7.out (by show w.heap.size + 2 ≠ _;omega),cell_past k6 HG7.out (by show w.heap.size + 2 ≠ _;omega),cell_past k7 HG7.out (by show w.heap.size + 2 ≠ _;omega)⟩)
  refine HK.out _ _ ⟨fun _=>HS7.out,?_⟩
  clear HK K
  try simp only [Act.put]
  refine bO 4 (by kernel_rfl) rfl ?_
  intro K HK
  try simp only [lzA,lzB,lzC]
  go_simp
  refine HK.out _ _ ⟨fun _=>HS7.out,?_⟩
  clear HK K
  try simp only [Act.put,lzA,lzB,lzC,lzD,lzE,lzF]
  refine bO 5 (by kernel_rfl) rfl ?_
  intro K HK
  try simp only [lzA,lzB,lzC]
  go_simp
  refine HK.out _ _ ⟨fun h=>absurd rfl h,?_⟩
  clear HK K
  try simp only [Act.put,lzA,lzB,lzC,lzD,lzE,lzF]
  refine but_done (by kernel_rfl) ?_
  obtain ⟨p0,p1,p2,p3⟩:=cells4 HR7.out
  go_wp2
  refine bodyPost_ret (v:=.tuple #[.agg #[.slice al h.log.length cl,.int .i64 h.boot,.int .i64 (h.next + 1),.slice a6 (h.opn.length + 1) c6],.slice a10 qa.length c10,.int .i64 0]) (by simp [results,Try.results111,go_sem,p0,p1,p2,p3]) rfl ?_
  have G7:=(G9.out.trans G10.out).grown HG7.out (fun q hq=>by simp at hq;omega)
  rw [HE1.out,HE2.out,HE3.out]
  refine ⟨_,_,rfl,⟨_,rfl,_,_,rfl,HLG.out.mono (ov_in HC.out),HIB.out.1,HNI.out,?_⟩,?_,G7⟩
  ·have h9:=(HO9.out.grow G10.out).kept HG7.out (own_apart (HO9.out.grow G10.out) (by have:=HZ3.out;omega))
   have h8:=OwnC.slc (d:=ov c w w7) (by decide) h9 (ov_in HC.out) fun a ha=>ov_new (by have:=HZ3.out;omega)
   have e8:newO h P = ⟨dd,P,false,[]⟩:=by unfold newO;rw [← HDD.out]
   rw [e8]
   exact h8
  ·rw [show newO h P = ⟨dd,P,false,[]⟩ by unfold newO;rw [← HDD.out],HQA.out]
   refine OwnC.slc (d:=ov c w w7) (by decide) (HO10.out.kept HG7.out (own_apart HO10.out (by have:=(Array.getElem?_eq_some_iff.1 R79.out).1;have:=ZE6.out;omega))) (fun a v e=>?_) fun a ha=>ov_new (by have:=(Array.getElem?_eq_some_iff.1 R79.out).1;have:=ZE6.out;omega)
   unfold fr at e
   split at e
   ·cases e
   ·rename_i hn
    have h1:¬ a.block < we.heap.size:=fun hx=>hn (.inl hx)
    have:=(Array.getElem?_eq_some_iff.1 R79.out).1
    have:=ZE6.out
    rw [ov_new (by omega)]
    exact cell_past e HG7.out (by omega)
def fc (c:CM) (W0 w:World) (X:List (Option Nat)):CM:=fun a=>if a.block < W0.heap.size then c a else fr W0 w X a
theorem fc_in {c:CM} {W0 w:World} {X:List (Option Nat)} (h:Sub c W0.cell?):Sub c (fc c W0 w X):=fun a v e=>by
 unfold fc
 rw [if_pos (World.block_lt_of_cell? W0 a (h _ _ e))];exact e
theorem fc_new {c:CM} {W0 w:World} {X:List (Option Nat)} {a:Addr} (h:W0.heap.size ≤ a.block) (hx:some a.block ∉ X):fc c W0 w X a = w.cell? a:=by
 unfold fc
 rw [if_neg (by omega),fr_new h hx]
theorem fc_step {c:CM} {W0 w w':World} {X X':List (Option Nat)} (h:∀ k,k < w.heap.size→W0.heap.size ≤ k→some k ∉ X→w'.heap[k]? = w.heap[k]?∧some k ∉ X'):Sub (fc c W0 w X) (fc c W0 w' X'):=fun a v e=>by
 unfold fc at e ⊢
 split at e
 ·rw [if_pos ‹_›];exact e
 ·rw [if_neg ‹_›];exact fr_step h a v e
theorem fc_grow {c:CM} {W0 w w':World} {X:List (Option Nat)} (h:Grow w w'):Sub (fc c W0 w X) (fc c W0 w' X):=fc_step fun k hk _ hx=>⟨h.block k hk,hx⟩
theorem fc_app {c:CM} {W0 w w':World} {v v':Value} (hg:w.grownBy w' v.ownBlock) (hb:v'.ownBlock = v.ownBlock ∨ ∃ g,v'.ownBlock = some g∧w.heap.size ≤ g):Sub (fc c W0 w [v.ownBlock]) (fc c W0 w' [v'.ownBlock]):=
 fc_step fun k hk _ hx=>by
  simp only [List.mem_singleton] at hx
  refine ⟨hg.block k hk hx,?_⟩
  simp only [List.mem_singleton]
  intro e
  rcases hb with hb | ⟨g,hb,hge⟩
  ·exact hx (e.trans hb)
  ·have:=Option.some.inj (e.trans hb)
   omega
theorem fc_box {c:CM} {W0 w w':World} {B:Nat} {X:List (Option Nat)} (hg:w.grownBy w' (some B)) (hB:B < W0.heap.size):Sub (fc c W0 w X) (fc c W0 w' X):=
 fc_step fun k hk h0 hx=>⟨hg.block k hk (fun e=>by have:=Option.some.inj e;omega),hx⟩
theorem fc_end {c:CM} {w W0 W w':World} {B:Nat} {X:List (Option Nat)} (hc:Sub c w.cell?) (h0:Grow w W0) (hg:W.grownBy w' (some B)) (hB:B < W0.heap.size):Sub (fc c W0 W X) (ov c w w'):=fun a v e=>by
 have e2:=fc_box hg hB a v e
 have hs:=h0.size
 unfold fc at e2
 unfold ov
 split at e2
 ·rw [if_pos (World.block_lt_of_cell? w a (hc _ _ e2))];exact e2
 ·rw [if_neg (by omega)];exact fr_sub _ _ _ _ _ e2
theorem hgo_fresh (m:Ms):∀ (l:List Opn) (s:HGo),(s.known = false→s.recs = []∧s.says = [])→(l.foldl (hgoStep m) s).known = false→(l.foldl (hgoStep m) s).recs = []∧(l.foldl (hgoStep m) s).says = []
 | [],s,h=>h
 | o :: l,s,h=>by
  rw [List.foldl_cons]
  refine hgo_fresh m l _ fun hk=>?_
  unfold hgoStep at hk ⊢
  split at hk
  ·cases hk
  ·rename_i hn
   rw [if_neg hn]
   exact h hk
theorem hgo_few (m:Ms):∀ (l:List Opn) (s:HGo),s.recs.length ≤ 1→(l.foldl (hgoStep m) s).recs.length ≤ 1
 | [],s,h=>h
 | o :: l,s,h=>by
  rw [List.foldl_cons]
  refine hgo_few m l _ ?_
  unfold hgoStep
  split
  ·show (hearO o m).2.1.length ≤ 1
   unfold hearO
   split
   ·split <;> simp
   ·split
    ·simp
    ·split
     ·split <;> simp
     ·split <;> simp
  ·exact h
theorem hgo_past {m:Ms} {s:HGo} {o:Opn} (h:¬ (o.deed = m.deed∧s.known = false)):hgoStep m s o = { s with opn:=s.opn ++ [o] }:=by unfold hgoStep;rw [if_neg h]
theorem hgo_at {m:Ms} {s:HGo} {o:Opn} (h1:o.deed = m.deed) (h2:s.known = false):hgoStep m s o = ⟨s.opn ++ (hearO o m).1,(hearO o m).2.1,(hearO o m).2.2,true⟩:=by unfold hgoStep;rw [if_pos ⟨h1,h2⟩]
def isNew (o:Opn) (m:Ms):Prop:=m.house ∈ housesE o.parts∧m.house ∉ o.heard
instance (o:Opn) (m:Ms):Decidable (isNew o m):=by unfold isNew;infer_instance
def allHeard (o:Opn):Bool:=decide (o.heard.length + 1 = (housesE o.parts).length)
theorem hearO_yesAll {o:Opn} {m:Ms} (h:m.kind = 2∧o.dec = false∧isNew o m) (ha:allHeard o = true):hearO o m = ([⟨o.deed,o.parts,true,[]⟩],[⟨5,o.deed,o.parts⟩],asksE ⟨o.deed,o.parts,true,[]⟩):=by
 unfold hearO
 rw [if_pos ⟨h.1,h.2.1,h.2.2.1,h.2.2.2⟩,if_pos (of_decide_eq_true ha)]
theorem hearO_yes {o:Opn} {m:Ms} (h:m.kind = 2∧o.dec = false∧isNew o m) (ha:allHeard o = false):hearO o m = ([⟨o.deed,o.parts,false,o.heard ++ [m.house]⟩],[],[]):=by
 unfold hearO
 rw [if_pos ⟨h.1,h.2.1,h.2.2.1,h.2.2.2⟩,if_neg (of_decide_eq_false ha)]
 obtain ⟨-,h2,-⟩:=h
 cases o;cases h2;rfl
theorem hearO_no {o:Opn} {m:Ms} (h1:¬ (m.kind = 2∧o.dec = false∧isNew o m)) (h:m.kind = 3∧o.dec = false):hearO o m = ([],[],abortsE o.deed o.parts):=by
 unfold hearO
 rw [if_neg (fun x=>h1 ⟨x.1,x.2.1,x.2.2.1,x.2.2.2⟩),if_pos h]
theorem hearO_ackAll {o:Opn} {m:Ms} (h1:¬ (m.kind = 2∧o.dec = false∧isNew o m)) (h2:¬ (m.kind = 3∧o.dec = false)) (h:m.kind = 6∧o.dec = true∧isNew o m) (ha:allHeard o = true):hearO o m = ([],[⟨6,o.deed,[]⟩],[]):=by
 unfold hearO
 rw [if_neg (fun x=>h1 ⟨x.1,x.2.1,x.2.2.1,x.2.2.2⟩),if_neg h2,if_pos ⟨h.1,h.2.1,h.2.2.1,h.2.2.2⟩,if_pos (of_decide_eq_true ha)]
theorem hearO_ack {o:Opn} {m:Ms} (h1:¬ (m.kind = 2∧o.dec = false∧isNew o m)) (h2:¬ (m.kind = 3∧o.dec = false)) (h:m.kind = 6∧o.dec = true∧isNew o m) (ha:allHeard o = false):hearO o m = ([⟨o.deed,o.parts,true,o.heard ++ [m.house]⟩],[],[]):=by
 unfold hearO
 rw [if_neg (fun x=>h1 ⟨x.1,x.2.1,x.2.2.1,x.2.2.2⟩),if_neg h2,if_pos ⟨h.1,h.2.1,h.2.2.1,h.2.2.2⟩,if_neg (of_decide_eq_false ha)]
 obtain ⟨-,h3,-⟩:=h
 cases o;cases h3;rfl
theorem hearO_ask {o:Opn} {m:Ms} (h1:¬ (m.kind = 2∧o.dec = false∧isNew o m)) (h2:¬ (m.kind = 3∧o.dec = false)) (h3:¬ (m.kind = 6∧o.dec = true∧isNew o m)) (h:m.kind = 7∧o.dec = true):hearO o m = ([o],[],[⟨4,m.deed,m.house,[]⟩]):=by
 unfold hearO
 rw [if_neg (fun x=>h1 ⟨x.1,x.2.1,x.2.2.1,x.2.2.2⟩),if_neg h2,if_neg (fun x=>h3 ⟨x.1,x.2.1,x.2.2.1,x.2.2.2⟩),if_pos h]
theorem hearO_else {o:Opn} {m:Ms} (h1:¬ (m.kind = 2∧o.dec = false∧isNew o m)) (h2:¬ (m.kind = 3∧o.dec = false)) (h3:¬ (m.kind = 6∧o.dec = true∧isNew o m)) (h:¬ (m.kind = 7∧o.dec = true)):hearO o m = ([o],[],[]):=by
 unfold hearO
 rw [if_neg (fun x=>h1 ⟨x.1,x.2.1,x.2.2.1,x.2.2.2⟩),if_neg h2,if_neg (fun x=>h3 ⟨x.1,x.2.1,x.2.2.1,x.2.2.2⟩),if_neg h]
structure QBox (c:CM) (w wz wr:World) (h:Hd) (s:HGo) (vl vo vs:Value):Prop where
 row:wr.heap[w.heap.size + 3]? = some (.cells #[vl,.int .i64 h.boot,.int .i64 h.next,vo] 57 (0,0))
 log:Sl Ty.rc (fc c wz wr [vo.ownBlock]) vl (h.log ++ s.recs)
 opn:OwnC Ty.opn (fc c wz wr [vo.ownBlock]) wr (w.heap.size + 4) 136 vo s.opn
 says:Sl Ty.ms (fc c wz wr [vo.ownBlock]) vs s.says
 old:∀ k,k < 3→wr.heap[w.heap.size + k]? = wz.heap[w.heap.size + k]?
 grow:Grow w wr
 zsize:wz.heap.size = w.heap.size + 4
theorem QBox.size {c:CM} {w wz wr:World} {h:Hd} {s:HGo} {vl vo vs:Value} (b:QBox c w wz wr h s vl vo vs):w.heap.size + 4 ≤ wr.heap.size:=by
 have:=(Array.getElem?_eq_some_iff.1 b.row).1
 omega
theorem QBox.later {c:CM} {w wz wr W:World} {h:Hd} {s:HGo} {vl vo vs:Value} (b:QBox c w wz wr h s vl vo vs) (hg:Grow wr W):QBox c w wz W h s vl vo vs where
 row:=row_grow b.row hg
 log:=b.log.mono (fc_grow hg)
 opn:=(b.opn.mono (fc_grow hg)).grow hg
 says:=b.says.mono (fc_grow hg)
 old:=fun k hk=>by rw [hg.block _ (by have:=b.size;omega)];exact b.old k hk
 grow:=b.grow.trans hg
 zsize:=b.zsize
theorem QBox.setLog {c:CM} {w wz wr W:World} {h:Hd} {so:List Opn} {sr:List Rc} {ss:List Ms} {sk:Bool} {vl vo vs vl':Value} (b:QBox c w wz wr h ⟨so,sr,ss,sk⟩ vl vo vs) (recs:List Rc) (hg:wr.grownBy W (some (w.heap.size + 3)))
  (r:W.heap[w.heap.size + 3]? = some (.cells #[vl',.int .i64 h.boot,.int .i64 h.next,vo] 57 (0,0))) (hl:Sl Ty.rc (fc c wz wr [vo.ownBlock]) vl' (h.log ++ recs)):QBox c w wz W h ⟨so,recs,ss,sk⟩ vl' vo vs where
 row:=r
 log:=hl.mono (fc_box hg (by have:=b.zsize;omega))
 opn:=(b.opn.mono (fc_box hg (by have:=b.zsize;omega))).kept hg (own_apart b.opn (by omega))
 says:=b.says.mono (fc_box hg (by have:=b.zsize;omega))
 old:=fun k hk=>by rw [hg.block _ (by have:=b.size;omega) (fun e=>by have:=Option.some.inj e;omega)];exact b.old k hk
 grow:=b.grow.grown hg (fun q e=>by have:=Option.some.inj e;omega)
 zsize:=b.zsize
theorem QBox.app {c:CM} {w wz wr wl w9 W:World} {h:Hd} {so:List Opn} {sr:List Rc} {ss:List Ms} {sk:Bool} {vl vo vs v9:Value} (b:QBox c w wz wr h ⟨so,sr,ss,sk⟩ vl vo vs) (o:Opn) (hgl:Grow wr wl) (hg9:wl.grownBy w9 vo.ownBlock)
  (hb9:v9.ownBlock = vo.ownBlock ∨ ∃ g,v9.ownBlock = some g∧wl.heap.size ≤ g) (ho9:OwnC Ty.opn (fc c wz wr [vo.ownBlock]) w9 (w.heap.size + 4) 136 v9 (so ++ [o])) (hg:w9.grownBy W (some (w.heap.size + 3)))
  (r:W.heap[w.heap.size + 3]? = some (.cells #[vl,.int .i64 h.boot,.int .i64 h.next,v9] 57 (0,0))):QBox c w wz W h ⟨so ++ [o],sr,ss,sk⟩ vl v9 vs:=by
 have hsz:=b.size
 have hz:=b.zsize
 have hm:Sub (fc c wz wr [vo.ownBlock]) (fc c wz W [v9.ownBlock]):=
  ((fc_grow hgl).trans (fc_app hg9 hb9)).trans (fc_box hg (by omega))
 have hvo:∀ q,vo.ownBlock = some q→w.heap.size + 4 ≤ q:=fun q e=>(b.opn.lt q e).1
 refine ⟨r,b.log.mono hm,(ho9.mono hm).kept hg (own_apart ho9 (by omega)),b.says.mono hm,fun k hk=>?_,?_,hz⟩
 ·rw [hg.block _ (by have:=hg9.size;have:=hgl.size;omega) (fun e=>by have:=Option.some.inj e;omega),hg9.block _ (by have:=hgl.size;omega) (fun e=>by have:=hvo _ e.symm;omega),hgl.block _ (by omega)]
  exact b.old k hk
 ·exact ((b.grow.trans hgl).grown hg9 (fun q e=>by have:=hvo q e;omega)).grown hg (fun q e=>by have:=Option.some.inj e;omega)
theorem QBox.setSays {c:CM} {w wz W:World} {h:Hd} {so:List Opn} {sr:List Rc} {ss ss':List Ms} {sk:Bool} {vl vo vs vs':Value} (b:QBox c w wz W h ⟨so,sr,ss,sk⟩ vl vo vs) (hs:Sl Ty.ms (fc c wz W [vo.ownBlock]) vs' ss'):QBox c w wz W h ⟨so,sr,ss',true⟩ vl vo vs':=
 ⟨b.row,b.log,b.opn,hs,b.old,b.grow,b.zsize⟩
theorem QBox.zle {c:CM} {w wz W:World} {h:Hd} {s:HGo} {vl vo vs:Value} (b:QBox c w wz W h s vl vo vs):wz.heap.size ≤ W.heap.size:=by have:=b.zsize;have:=b.size;omega
theorem QBox.nx {c:CM} {w wz W:World} {h:Hd} {s:HGo} {vl vo vs:Value} (b:QBox c w wz W h s vl vo vs):∀ k,W.heap.size ≤ k→some k ∉ [vo.ownBlock]:=fun k hk=>by
 simp only [List.mem_singleton]
 intro e
 have:=(b.opn.lt k e.symm).2
 omega
theorem QBox.newSl {α:Type} {T:Ty α} (h0:0 < T.size) {c d:CM} {w wz W W4:World} {h:Hd} {s:HGo} {vl vo vs v:Value} {e:Nat} {l:List α} (b:QBox c w wz W h s vl vo vs) (hd:Sub d (fc c wz W4 [vo.ownBlock])) (h4:OwnC T d W4 W.heap.size e v l):Sl T (fc c wz W4 [vo.ownBlock]) v l:=
 h4.slc h0 hd fun a ha=>fc_new (by have:=b.zle;omega) (b.nx _ ha)
theorem QBox.frSub {c:CM} {w wz W W4:World} {h:Hd} {s:HGo} {vl vo vs:Value} {Y:List (Option Nat)} (b:QBox c w wz W h s vl vo vs):Sub (fr W W4 Y) (fc c wz W4 [vo.ownBlock]):=fun a v e=>by
 unfold fr at e
 split at e
 ·cases e
 ·rename_i hn
  have h1:¬ a.block < W.heap.size:=fun hx=>hn (.inl hx)
  rw [fc_new (by have:=b.zle;omega) (b.nx _ (by omega))]
  exact e
theorem info_ints:(Try.prog.info? 27).map (·.size) = some 1:=by kernel_rfl
theorem info_bool:(Try.prog.info? 4).map (·.size) = some 1:=by kernel_rfl
theorem info_rcs:(Try.prog.info? 22).map (·.size) = some 1:=by kernel_rfl
theorem info_pts1:(Try.prog.info? 23).map (·.size) = some 1:=by kernel_rfl
theorem off_of {v:Value} {B:Nat} (h:∀ q,v.ownBlock = some q→q ≠ B):v.ownBlock = none ∨ v.ownBlock ≠ some B:=by
 cases e:v.ownBlock with
 | none=>exact .inl rfl
 | some q=>exact .inr fun e2=>h q e (Option.some.inj e2)
theorem sl_ints {c:CM} {v:Value} {l:List Int} (h:Sl Ty.int c v l):∀ x ∈ l,I64 x:=fun x hx=>by
 obtain ⟨a,cap,rfl,-,-,-,hel⟩:=h
 obtain ⟨i,hi,rfl⟩:=List.mem_iff_getElem.1 hx
 obtain ⟨b,o,cs,-,⟨-,h9⟩,-⟩:=hel i _ (List.getElem?_eq_getElem hi)
 exact h9
set_option maxRecDepth 100000 in
set_option maxHeartbeats 4000000 in
theorem head_own {v:Value} {h:Hd} (w:World) (hv:Of Ty.hd w.cell? v h) (hk:HdOk h) (hp:∀ r ∈ h.log,r.parts.length * 24 ≤ 140737488355328) :
  Calls Try.prog 104 #[v] w fun e w'=>∃ vl vo B L,e = .returned (.agg #[vl,.int .i64 h.boot,.int .i64 h.next,vo])∧L.map (·.1) = h.opn∧HR w w' B vl vo h.log L:=by
 obtain ⟨al,cl,ar,cr,rfl⟩:=hv.hd_form
 obtain ⟨ar',cr',he,h1,h2,-,hel⟩:=(Of.hd_log hv).2
 obtain ⟨rfl,rfl⟩:ar = ar'∧cr = cr':=by simpa using he
 unfold maxLen at h2
 have HLO:=Lib.hid (fun (W:World) (hW:Grow w W)=>log_own W ((Of.hd_log hv).1.mono hW.sub) (by have:=hk.log;omega) hp)
 have HOP:=Lib.hid hk.parts
 have HHE:=Lib.hid hk.heard
 have h12:=hk.opn
 clear hk he hv hp
 obtain ⟨wa,hwa⟩:∃ y:World,y = w.alloc (.cells #[.slice al h.log.length cl,.int .i64 h.boot,.int .i64 h.next,.slice ar h.opn.length cr] 57):=⟨_,rfl⟩
 obtain ⟨wz,hwz⟩:∃ y:World,y = wa.alloc (.cells #[.slice none 0 0,.int .i64 0,.int .i64 0,.slice none 0 0] 57):=⟨_,rfl⟩
 have hsz:wa.heap.size = w.heap.size + 1:=by rw [hwa];simp
 have R1:Hid (wz.heap[w.heap.size]? = some (.cells #[.slice al h.log.length cl,.int .i64 h.boot,.int .i64 h.next,.slice ar h.opn.length cr] 57 (0,0))):=Lib.hid (by rw [hwz,hwa];exact heap_later (row_new _ _) _)
 have R2:Hid (wz.heap[w.heap.size + 1]? = some (.cells #[.slice none 0 0,.int .i64 0,.int .i64 0,.slice none 0 0] 57 (0,0))):=Lib.hid (by rw [hwz,← hsz];exact row_new _ _)
 have G1:Hid (Grow w wz):=Lib.hid (by rw [hwz,hwa];exact ((Grow.refl w).alloc _).alloc _)
 have HZ:Hid (wz.heap.size = w.heap.size + 2):=Lib.hid (by rw [hwz,hwa];simp)
 have HS:Hid (∀ W,Grow wz W→W.cell? ⟨w.heap.size,0,none⟩ = some (.slice al h.log.length cl)∧W.cell? ⟨w.heap.size,1,none⟩ = some (.int .i64 h.boot)∧W.cell? ⟨w.heap.size,2,none⟩ = some (.int .i64 h.next)):=fun W hW=>by
  obtain ⟨j0,j1,j2,-⟩:=cells4 (row_grow R1.out hW)
  exact ⟨j0,j1,j2⟩
 go_enter Try.func104,Try.ntmps104
 go_upto_region 1 with fail
 rw [← hwa]
 try rw [hsz]
 rw [← hwz]
 clear hwa hwz hsz
 go_cut [3,36] from 6 (fun s3 s36 wc=>s36 = undef∧∃ B3 a3 c3,s3 = .pointer (some ⟨B3,0,none⟩)∧wc.heap[B3]? = some (.cells #[.slice a3 h.log.length c3,.int .i64 h.boot,.int .i64 h.next,.slice none 0 0] 57 (0,0))∧HR wz wc B3 (.slice a3 h.log.length c3) (.slice none 0 0) h.log [])
 case first=>
  refine bSc (fun w'=>w'.cell? ⟨w.heap.size,0,none⟩ = some (.slice al h.log.length cl)∧w'.cell? ⟨w.heap.size,1,none⟩ = some (.int .i64 h.boot)∧w'.cell? ⟨w.heap.size,2,none⟩ = some (.int .i64 h.next)) [9] (by kernel_rfl) ?_
  intro wd GD zD
  have ZD:=Lib.hid zD
  clear zD
  refine bLc [0,1,3,4,5,6] 12 (by kernel_rfl) (fun _ _ _ _ _ h=>h) (HS.out _ GD) ?_
  repeat (refine tNc (v:=?_) rfl (by rfl) ?_ ?_;rotate_left;(· (intro w' hSw;(try dsimp only at hSw);obtain ⟨hs0,hs1,hs2⟩:=hSw;go_simp <;> with_reducible rfl));try simp only [Act.put,lzA,lzB,lzC,lzD,lzE,lzF])
  refine tEc ?_
  refine bPc 2 8 (by kernel_rfl) rfl rfl ?_ ?_
  ·intro K HK
   try simp only [lzA,lzB,lzC]
   go_simp
   go_at_call 40
   refine (HLO.out _ (G1.out.trans GD)).mono ?_
   rintro e w1 ⟨vl,rfl,hol,hb1⟩
   obtain ⟨a3,c3,rfl⟩:=hol.form
   have HOL:=Lib.hid hol
   have G2:=Lib.hid (Grow.trans GD hb1)
   have GB1:=Lib.hid hb1
   clear hol hb1
   refine HK.out _ _ ⟨.inr (HS.out _ G2.out),?_⟩
   clear HK K
   try simp only [Act.put,lzA,lzB,lzC,lzD,lzE,lzF]
   refine bLc [7] 12 (by kernel_rfl) (fun _ _ _ _ _ h=>h) (HS.out _ G2.out) ?_
   repeat (refine tNc (v:=?_) rfl (by rfl) ?_ ?_;rotate_left;(· (intro w' hSw;(try dsimp only at hSw);obtain ⟨hs0,hs1,hs2⟩:=hSw;go_simp <;> with_reducible rfl));try simp only [Act.put,lzA,lzB,lzC,lzD,lzE,lzF])
   refine tEc ?_
   refine bOc 8 (by kernel_rfl) rfl ?_
   intro K HK
   try simp only [lzA,lzB,lzC]
   go_simp
   obtain ⟨w8,hw8⟩:∃ y:World,y = w1.alloc (.cells #[.slice none 0 0,.int .i64 0,.int .i64 0,.slice none 0 0] 57):=⟨_,rfl⟩
   obtain ⟨B3,hB3⟩:∃ B,B = w1.heap.size:=⟨_,rfl⟩
   rw [← hw8,← hB3]
   have R3:Hid (w8.heap[B3]? = some (.cells #[.slice none 0 0,.int .i64 0,.int .i64 0,.slice none 0 0] 57 (0,0))):=Lib.hid (by rw [hw8,hB3];exact row_new _ _)
   have G8:Hid (Grow w1 w8):=Lib.hid (by rw [hw8];exact (Grow.refl _).alloc _)
   have HB3:=Lib.hid hB3
   have HS8:Hid (w8.heap.size = B3 + 1):=Lib.hid (by rw [hw8,hB3];simp)
   have GA8:=Lib.hid (Grow.trans G2.out G8.out)
   clear hw8 hB3
   refine HK.out _ _ ⟨.inr (HS.out _ GA8.out),?_⟩
   clear HK K
   try simp only [Act.put,lzA,lzB,lzC,lzD,lzE,lzF]
   refine bOc 9 (by kernel_rfl) rfl ?_
   intro K HK
   refine wanted_go rfl ?_
   try simp only [lzA,lzB,lzC]
   refine wp_store_row (.tmp 3) (.tmp 13) rfl rfl rfl R3.out info_hd rfl rfl ?_
   intro wc rc gc
   refine HK.out _ _ ⟨.inl (by decide),?_⟩
   clear HK K
   try simp only [Act.put]
   refine bDc (by kernel_rfl) ?_
   go_wp2
   go_meet
   case rel=>
    have z1:=HZ.out
    have z2:=ZD.out
    have z3:=HS8.out
    have z4:=HB3.out
    have z5:=(GA8.out).size
    have z6:=gc.size
    have z7:=GB1.out.size
    have GC:Grow wz wc:=(GA8.out).grown gc (fun q hq=>by have:=Option.some.inj hq;omega)
    exact ⟨rfl,B3,a3,c3,rfl,rc,HR.start HOL.out (by have:=(GD).size;omega) (by omega) (fun k h1 h2=>⟨by omega,by rw [gc.block k (by omega) (fun e=>by have:=Option.some.inj e;omega),G8.out.block k (by omega)]⟩) (by omega) GC⟩
  ·intro K HK
   try simp only [lzA,lzB,lzC]
   go_simp
   obtain ⟨w8,hw8⟩:∃ y:World,y = wd.alloc (.cells #[.slice none 0 0,.int .i64 0,.int .i64 0,.slice none 0 0] 57):=⟨_,rfl⟩
   obtain ⟨B3,hB3⟩:∃ B,B = wd.heap.size:=⟨_,rfl⟩
   rw [← hw8,← hB3]
   have R3:Hid (w8.heap[B3]? = some (.cells #[.slice none 0 0,.int .i64 0,.int .i64 0,.slice none 0 0] 57 (0,0))):=Lib.hid (by rw [hw8,hB3];exact row_new _ _)
   have G8:Hid (Grow wd w8):=Lib.hid (by rw [hw8];exact (Grow.refl _).alloc _)
   have HB3:=Lib.hid hB3
   have HS8:Hid (w8.heap.size = B3 + 1):=Lib.hid (by rw [hw8,hB3];simp)
   have GA8:=Lib.hid (Grow.trans GD G8.out)
   clear hw8 hB3
   refine HK.out _ _ ⟨.inr (HS.out _ GA8.out),?_⟩
   clear HK K
   try simp only [Act.put,lzA,lzB,lzC,lzD,lzE,lzF]
   refine bOc 2 (by kernel_rfl) rfl ?_
   intro K HK
   try simp only [lzA,lzB,lzC]
   go_simp
   go_at_call 40
   refine (HLO.out _ (G1.out.trans GA8.out)).mono ?_
   rintro e w1 ⟨vl,rfl,hol,hb1⟩
   obtain ⟨a3,c3,rfl⟩:=hol.form
   have HOL:=Lib.hid hol
   have G2:=Lib.hid (Grow.trans GA8.out hb1)
   have GB1:=Lib.hid hb1
   clear hol hb1
   have R31:=Lib.hid (row_grow R3.out GB1.out)
   refine HK.out _ _ ⟨.inr (HS.out _ G2.out),?_⟩
   clear HK K
   try simp only [Act.put,lzA,lzB,lzC,lzD,lzE,lzF]
   refine bLc [7] 12 (by kernel_rfl) (fun _ _ _ _ _ h=>h) (HS.out _ G2.out) ?_
   repeat (refine tNc (v:=?_) rfl (by rfl) ?_ ?_;rotate_left;(· (intro w' hSw;(try dsimp only at hSw);obtain ⟨hs0,hs1,hs2⟩:=hSw;go_simp <;> with_reducible rfl));try simp only [Act.put,lzA,lzB,lzC,lzD,lzE,lzF])
   refine tEc ?_
   refine bOc 9 (by kernel_rfl) rfl ?_
   intro K HK
   refine wanted_go rfl ?_
   try simp only [lzA,lzB,lzC]
   refine wp_store_row (.tmp 3) (.tmp 13) rfl rfl rfl R31.out info_hd rfl rfl ?_
   intro wc rc gc
   refine HK.out _ _ ⟨.inl (by decide),?_⟩
   clear HK K
   try simp only [Act.put]
   refine bDc (by kernel_rfl) ?_
   go_wp2
   go_meet
   case rel=>
    have z1:=HZ.out
    have z2:=ZD.out
    have z3:=HS8.out
    have z4:=HB3.out
    have z5:=(G2.out).size
    have z6:=gc.size
    have z7:=GB1.out.size
    have GC:Grow wz wc:=(G2.out).grown gc (fun q hq=>by have:=Option.some.inj hq;omega)
    exact ⟨rfl,B3,a3,c3,rfl,rc,HR.start HOL.out (by have:=(GA8.out).size;omega) (by omega) (fun k h1 h2=>⟨by omega,gc.block k (by omega) (fun e=>by have:=Option.some.inj e;omega)⟩) (by omega) GC⟩
 case rest=>
 obtain ⟨rfl,B3,a3,c3,rfl,r3,hr⟩:=hcut
 have GC:=Lib.hid hr.grow
 have R1C:=Lib.hid (row_grow R1.out GC.out)
 obtain ⟨c0,c1,c2,c4⟩:=cells4 R1C.out
 have z1:w.heap.size < wc.heap.size:=(Array.getElem?_eq_some_iff.1 R1C.out).1
 have R3:=Lib.hid r3
 have HR0:=Lib.hid hr
 clear HS r3 hr
 go_wp2
 clear c0 c1 c2 c4 z1
 go_loopw [17] (fun i wr=>∃ (ao:Option Addr) (co:Nat) (L:List OpH),L.length ≤ h.opn.length∧i = .int .i64 L.length∧L.map (·.1) = h.opn.take L.length∧wr.heap[B3]? = some (.cells #[.slice a3 h.log.length c3,.int .i64 h.boot,.int .i64 h.next,.slice ao L.length co] 57 (0,0))∧HR wz wr B3 (.slice a3 h.log.length c3) (.slice ao L.length co) h.log L) (fun i _=>h.opn.length - (intOf i).toNat)
 case atStart=>exact ⟨none,0,[],by simp,rfl,rfl,R3.out,HR0.out⟩
 case round=>
  obtain ⟨ao,co,L,hk',rfl,hL,hrow,hr⟩:=hrel
  have HG:=Lib.hid hr.grow
  have HRW:=Lib.hid hrow
  have HRR:=Lib.hid hr
  have HLM:=Lib.hid hL
  clear hrow hr hL
  have GW:=Lib.hid (G1.out.trans HG.out)
  by_cases hlt:L.length < h.opn.length
  ·have HTK:Hid (h.opn.take (L.length + 1) = h.opn.take L.length ++ [h.opn[L.length]]):=Lib.hid (by rw [List.take_succ_eq_append_getElem hlt])
   obtain ⟨b,o,vp,vh,rfl,c0,c1,c2,c3',i0,hP,hH⟩:=Opns.at_ hel L.length hlt
   obtain ⟨ap,cp,rfl,-⟩:=id hP
   obtain ⟨ah,ch,rfl,-⟩:=id hH
   have HPO:=Lib.hid (Pts.ok (c:=w.cell?) hP)
   have HIO:=Lib.hid (sl_ints hH)
   have HC1:=Lib.hid (fun (W:World) (hW:Grow w W)=>clone_pt W (hP.mono hW.sub) (by have:=HOP.out _ (List.getElem_mem hlt);omega))
   have HC2:=Lib.hid (fun (W:World) (hW:Grow w W)=>clone_int W (hH.mono hW.sub) (by have:=HHE.out _ (List.getElem_mem hlt);omega))
   have HI0:=Lib.hid i0
   replace c0:=GW.out.sub _ _ c0
   replace c1:=GW.out.sub _ _ c1
   replace c2:=GW.out.sub _ _ c2
   replace c3':=GW.out.sub _ _ c3'
   clear hel hP hH i0
   generalize h.opn[L.length] = q at *
   obtain ⟨wx,rfl⟩:∃ x:World,x = wr:=⟨_,rfl⟩
   obtain ⟨wo,hwo⟩:∃ y:World,y = wx.alloc (.cells #[.int .i64 q.deed,.slice ap q.parts.length cp,.bool q.dec,.slice ah q.heard.length ch] 136):=⟨_,rfl⟩
   have GO:Hid (Grow wx wo):=Lib.hid (by rw [hwo];exact (Grow.refl _).alloc _)
   have HSO:Hid (wo.heap.size = wx.heap.size + 1):=Lib.hid (by rw [hwo];simp)
   obtain ⟨BO,hBO⟩:∃ y,y = wx.heap.size:=⟨_,rfl⟩
   have RO:Hid (wo.heap[BO]? = some (.cells #[.int .i64 q.deed,.slice ap q.parts.length cp,.bool q.dec,.slice ah q.heard.length ch] 136 (0,0))):=Lib.hid (by rw [hwo,hBO];exact row_new _ _)
   have HBB:Hid (BO = wx.heap.size):=Lib.hid hBO
   have HB9:Hid (B3 < wx.heap.size):=Lib.hid (Array.getElem?_eq_some_iff.1 HRW.out).1
   have HS:Hid (∀ W,Grow wo W→W.cell? ⟨BO,1,none⟩ = some (.slice ap q.parts.length cp)∧W.cell? ⟨BO,3,none⟩ = some (.slice ah q.heard.length ch)):=fun W hW=>by
    obtain ⟨-,j1,-,j3⟩:=cells4 (row_grow RO.out hW)
    exact ⟨j1,j3⟩
   go_upto_region 5 with fail
   rw [← hwo,← hBO]
   clear hwo hBO c0 c1 c2 c3'
   go_cut [36] from 21 (fun s36 wc=>s36 = undef∧∃ a5 c5 a6 c6,wc.heap[BO]? = some (.cells #[.int .i64 q.deed,.slice a5 q.parts.length c5,.bool q.dec,.slice a6 q.heard.length c6] 136 (0,0))∧OwnC Ty.pt (fun _=>none) wc wo.heap.size 32 (.slice a5 q.parts.length c5) q.parts∧OwnC Ty.int (fun _=>none) wc wo.heap.size 3 (.slice a6 q.heard.length c6) q.heard∧(∀ g,(Value.slice a6 q.heard.length c6).ownBlock = some g→(Value.slice a5 q.parts.length c5).ownBlock ≠ some g)∧Grow wx wc)
   case first=>
    refine bSc (fun w'=>w'.cell? ⟨BO,1,none⟩ = some (.slice ap q.parts.length cp)∧w'.cell? ⟨BO,3,none⟩ = some (.slice ah q.heard.length ch)) [7,8,9] (by kernel_rfl) ?_
    intro wd GD zD
    have ZD:=Lib.hid zD
    clear zD
    refine bLc [0,1,3,4] 12 (by kernel_rfl) (fun _ _ _ _ _ h=>h) (HS.out _ GD) ?_
    repeat (refine tNc (v:=?_) rfl (by rfl) ?_ ?_;rotate_left;(· (intro w' hSw;(try dsimp only at hSw);obtain ⟨hs0,hs1⟩:=hSw;go_simp <;> with_reducible rfl));try simp only [Act.put,lzA,lzB,lzC,lzD,lzE,lzF])
    refine tEc ?_
    refine bOc 2 (by kernel_rfl) rfl ?_
    intro K HK
    try simp only [lzA,lzB,lzC]
    go_simp
    go_at_call 122
    refine (HC1.out _ (GW.out.trans (GO.out.trans GD))).mono ?_
    rintro e w5 ⟨v5,rfl,ho5,hb5⟩
    obtain ⟨a5,c5,rfl⟩:=owns_form ho5
    have HO5:=Lib.hid ho5
    have G5:=Lib.hid (Grow.trans GD hb5)
    clear ho5 hb5
    refine HK.out _ _ ⟨.inr (HS.out _ G5.out),?_⟩
    clear HK K
    try simp only [Act.put,lzA,lzB,lzC,lzD,lzE,lzF]
    refine bLc [6] 12 (by kernel_rfl) (fun _ _ _ _ _ h=>h) (HS.out _ G5.out) ?_
    repeat (refine tNc (v:=?_) rfl (by rfl) ?_ ?_;rotate_left;(· (intro w' hSw;(try dsimp only at hSw);obtain ⟨hs0,hs1⟩:=hSw;go_simp <;> with_reducible rfl));try simp only [Act.put,lzA,lzB,lzC,lzD,lzE,lzF])
    refine tEc ?_
    refine bOc 5 (by kernel_rfl) rfl ?_
    intro K HK
    try simp only [lzA,lzB,lzC]
    go_simp
    go_at_call 150
    refine (HC2.out _ (GW.out.trans (GO.out.trans G5.out))).mono ?_
    rintro e w6 ⟨v6,rfl,ho6,hb6⟩
    obtain ⟨a6,c6,rfl⟩:=owns_form ho6
    have HO6:=Lib.hid ho6
    have GB6:=Lib.hid hb6
    have G6:=Lib.hid (Grow.trans G5.out hb6)
    clear ho6 hb6
    refine HK.out _ _ ⟨.inr (HS.out _ G6.out),?_⟩
    clear HK K
    try simp only [Act.put,lzA,lzB,lzC,lzD,lzE,lzF]
    refine bOc 7 (by kernel_rfl) rfl ?_
    intro K HK
    refine wanted_go rfl ?_
    try simp only [lzA,lzB,lzC]
    refine wp_store_cell (.tmp 27) (.tmp 23) (v:=.slice a5 q.parts.length c5) (new:=#[.int .i64 q.deed,.slice a5 q.parts.length c5,.bool q.dec,.slice ah q.heard.length ch]) rfl rfl (by rfl) (by rfl) (row_grow RO.out G6.out) info_pts1 (by simp) (by rfl) (by rfl) ?_
    intro w7 r7 g7
    have HR7:=Lib.hid r7
    have HG7:=Lib.hid g7
    clear r7 g7
    refine HK.out _ _ ⟨.inl (by decide),?_⟩
    clear HK K
    try simp only [Act.put]
    refine bOc 8 (by kernel_rfl) rfl ?_
    intro K HK
    try simp only [lzA,lzB,lzC]
    go_simp
    refine HK.out _ _ ⟨.inl (by decide),?_⟩
    clear HK K
    try simp only [Act.put,lzA,lzB,lzC,lzD,lzE,lzF]
    refine bOc 9 (by kernel_rfl) rfl ?_
    intro K HK
    refine wanted_go rfl ?_
    try simp only [lzA,lzB,lzC]
    refine wp_store_cell (.tmp 28) (.tmp 26) (v:=.slice a6 q.heard.length c6) (new:=#[.int .i64 q.deed,.slice a5 q.parts.length c5,.bool q.dec,.slice a6 q.heard.length c6]) rfl rfl (by rfl) (by rfl) HR7.out info_ints (by simp) (by rfl) (by rfl) ?_
    intro w9 r9 g9
    refine HK.out _ _ ⟨.inl (by decide),?_⟩
    clear HK K
    try simp only [Act.put]
    refine bDc (by kernel_rfl) ?_
    go_wp2
    go_meet
    case rel=>
     have z2:=ZD.out
     have z3:=HSO.out
     have z4:=HBB.out
     have z6:=G6.out.size
     have z9:=G5.out.size
     have GX:Grow wx w9:=((GO.out.trans G6.out).grown HG7.out (fun q hq=>by have:=Option.some.inj hq;omega)).grown g9 (fun q hq=>by have:=Option.some.inj hq;omega)
     have o5:=OwnC.pts (c:=fun _=>none) (owns_grow HO5.out GB6.out) HPO.out
     have o6:=OwnC.ints (c:=fun _=>none) HO6.out HIO.out
     have n5:∀ q,(Value.slice a5 _ c5).ownBlock = some q→q ≠ BO:=fun q hq=>by have:=(o5.lt q hq).1;omega
     have n6:∀ q,(Value.slice a6 _ c6).ownBlock = some q→q ≠ BO:=fun q hq=>by have:=(o6.lt q hq).1;omega
     have k5:=(o5.kept HG7.out (off_of n5)).kept g9 (off_of n5)
     have k6:=(o6.kept HG7.out (off_of n6)).kept g9 (off_of n6)
     exact ⟨rfl,a5,c5,a6,c6,r9,k5.base (by omega),k6.base (by omega),fun q hq e=>by have:=(o6.lt q hq).1;have h5:=(OwnC.pts (c:=fun _=>none) HO5.out HPO.out).lt q e;omega,GX⟩
   case rest=>
   obtain ⟨rfl,a5,c5,a6,c6,r9,o5,o6,hne,gx⟩:=hcut
   have R9:=Lib.hid r9
   have O5:=Lib.hid o5
   have O6:=Lib.hid o6
   have HNE:=Lib.hid hne
   have GX:=Lib.hid gx
   have RB:=Lib.hid (row_grow HRW.out GX.out)
   have zB:B3 < wc.heap.size:=(Array.getElem?_eq_some_iff.1 RB.out).1
   have zO:BO < wc.heap.size:=(Array.getElem?_eq_some_iff.1 R9.out).1
   obtain ⟨d0,d1,d2,d3⟩:=cells4 RB.out
   obtain ⟨e0,e1,e2,e3⟩:=cells4 R9.out
   clear HS r9 o5 o6 hne gx
   go_wp2_with (first | (at_builtin;refine wpList_appc (c:=fr wz (wc.alloc (.cells #[.int .i64 q.deed,.slice a5 q.parts.length c5,.bool q.dec,.slice a6 q.heard.length c6] 136)) ((Value.slice a6 q.heard.length c6).ownBlock :: hro B3 (.slice a3 h.log.length c3) (.slice ao L.length co) L)) (base:=wz.heap.size) (l:=L) (m:=[(q,.slice a6 q.heard.length c6)]) ei_opn rfl one_Toph (by decide) rfl (.tmp 30) (.tmp 32) rfl rfl ?own rfl (Src.of_new (T:=Ty.oph) (x:=(q,.slice a6 q.heard.length c6)) (cs:=#[.int .i64 q.deed,.slice a5 q.parts.length c5,.bool q.dec,.slice a6 q.heard.length c6]) ?d0 _ _ ?d1) ?d2 ?d3 ?_))
   case own=>exact HRR.out.opn.mono (HRR.out.ahead (W:=wc.alloc (.cells #[.int .i64 q.deed,.slice a5 q.parts.length c5,.bool q.dec,.slice a6 q.heard.length c6] 136)) (r:=(Value.slice a6 q.heard.length c6).ownBlock) (GX.out.alloc _) (fun p hp=>by have:=O6.out.lt p hp;have:=HSO.out;simp;omega)).2 |>.grow (GX.out.alloc _)
   case d0=>exact ⟨_,rfl,HI0.out,(O5.out.grow ((Grow.refl _).alloc _)).slb (by decide) (fun a v e=>by cases e) (fun a ha=>fr_new (by have:=O5.out.lt _ ha;have:=HG.out.size;have:=HSO.out;omega) (fun hm=>by
     rcases List.mem_cons.1 hm with e | hm
     ·exact HNE.out _ e.symm ha
     ·have h8:=(HRR.out.ok.lt _ hm).2
      have:=(O5.out.lt _ ha).1;have:=HSO.out;omega)),rfl⟩
   case d1=>first | rfl | simp
   case d2=>simp;omega
   case d3=>have:=HG.out.size;have:=GX.out.size;simp;omega
   intro a9 c9 w9 ho9 hg9 hb9
   have HRN:=Lib.hid (HRR.out.snoc (GX.out.alloc (.cells #[.int .i64 q.deed,.slice a5 q.parts.length c5,.bool q.dec,.slice a6 q.heard.length c6] 136)) ((O6.out.base (by have:=HSO.out;omega)).grow ((Grow.refl _).alloc _)) hg9 (hb9.imp_right fun ⟨g,e,hge⟩=>⟨g,e,by simpa using hge⟩) ho9)
   have RB9:=Lib.hid (row_by (row_grow RB.out ((Grow.refl _).alloc (.cells #[.int .i64 q.deed,.slice a5 q.parts.length c5,.bool q.dec,.slice a6 q.heard.length c6] 136))) hg9 (fun e=>by
    have:=HRR.out.ok.off (i:=0) (j:=2) rfl rfl (by decide)
    rcases this with e2 | e2
    ·cases e2
    ·exact e2 e))
   have HN9:Hid (∀ q,(Value.slice a9 (L.length + 1) c9).ownBlock = some q→q ≠ B3):=Lib.hid (fun p hp e=>by
    have:=HRN.out.ok.off (i:=0) (j:=2) rfl rfl (by decide)
    rcases this with e2 | e2
    ·cases e2
    ·exact e2 (by rw [← e];exact hp.symm))
   clear ho9 hg9 hb9 d0 d1 d2 d3 e0 e1 e2 e3 zB zO
   go_wp2_with (first | (refine wpList_store_cell rfl (.tmp 34) (.tmp 33) (v:=.slice a9 (L.length + 1) c9) (new:=#[.slice a3 h.log.length c3,.int .i64 h.boot,.int .i64 h.next,.slice a9 (L.length + 1) c9]) rfl rfl (by rfl) (by rfl) RB9.out info_opns (by simp) (by rfl) (by rfl) ?_))
   intro wn rn gn
   have HRZ:=Lib.hid (HRN.out.box gn)
   have RZ:=Lib.hid rn
   clear rn gn
   go_wp2
   go_roundw
   case rel=>
    have hl:(L ++ [((q:Opn),Value.slice a6 q.heard.length c6)]).length = L.length + 1:=by simp
    refine ⟨a9,c9,L ++ [(q,.slice a6 q.heard.length c6)],by rw [hl];omega,by rw [hl];go_num,?_,by rw [hl];exact RZ.out,by rw [hl];exact HRZ.out⟩
    rw [hl,HTK.out,List.map_append,HLM.out];rfl
   case measure=>simp [intOf];omega
  ·have R2W:=Lib.hid (row_grow R2.out HG.out)
   obtain ⟨d0,d1,d2,d3⟩:=cells4 HRW.out
   have zB:B3 < wr.heap.size:=(Array.getElem?_eq_some_iff.1 HRW.out).1
   have zR:w.heap.size + 1 < wr.heap.size:=(Array.getElem?_eq_some_iff.1 R2W.out).1
   clear hel
   go_wp2_with (first | (refine wpList_store_row rfl (.tmp 2) (.tmp 36) rfl rfl rfl R2W.out info_hd rfl rfl ?_))
   intro wf rf gf
   obtain ⟨p0,p1,p2,p3⟩:=cells4 rf
   go_wp2
   refine bodyPost_ret (v:=.agg #[.slice a3 h.log.length c3,.int .i64 h.boot,.int .i64 h.next,.slice ao L.length co]) (by simp [results,Try.results104,go_sem,p0,p1,p2,p3]) rfl ?_
   have hlm:=HLM.out
   rw [List.take_of_length_le (by omega)] at hlm
   exact ⟨_,_,B3,L,rfl,hlm,HRR.out.past G1.out gf (by have:=HZ.out;omega)⟩
structure PtsR (l:List Pt):Prop where
 ne:l ≠ []
 lt:∀ p ∈ l,0 ≤ p.h∧p.h < 3
 len:l.length ≤ 4
set_option maxRecDepth 100000 in
set_option maxHeartbeats 2000000 in
theorem head_aborts {d:Int} {v:Value} {l:List Pt} (w:World) (hv:Pts w.cell? v l) (hd:I64 d) (hr:PtsR l) :
  Calls Try.prog 151 #[.int .i64 d,v] w fun e w'=>∃ v',e = .returned v'∧OwnC Ty.ms (fun _=>none) w' w.heap.size 39 v' (abortsE d l)∧Grow w w':=by
 have HHO:=Lib.hid (part_houses w hv (by have:=hr.len;omega) hr.ne hr.lt)
 obtain ⟨ap,cp,rfl,-⟩:=id hv
 have HD:=Lib.hid hd
 clear hv hd hr
 go_enter Try.func151,Try.ntmps151
 go_wp2_with fail
 refine HHO.out.mono ?_
 rintro e w1 ⟨v1,rfl,ho1,hb1⟩
 obtain ⟨a1,c1,rfl⟩:=owns_form ho1
 have hix:=ints_of ho1 (houses_ok l)
 have G1:=Lib.hid hb1
 have HL:=Lib.hid (houses_short l)
 have HAE:Hid ((housesE l).map (fun n=>(⟨5,d,n,[]⟩:Ms)) = abortsE d l):=Lib.hid rfl
 clear ho1 hb1
 generalize housesE l = hs at *
 obtain ⟨a1',c1',he1,-,-,-,hel⟩:=hix
 obtain ⟨rfl,rfl⟩:a1 = a1'∧c1 = c1':=by simpa using he1
 clear he1
 go_wp2
 go_loopw [5,11] (fun s5 i wr=>∃ k:Nat,k ≤ hs.length∧i = .int .i64 k∧Grow w1 wr∧OwnC Ty.ms (fun _=>none) wr w1.heap.size 39 s5 ((hs.take k).map (fun n=>(⟨5,d,n,[]⟩:Ms)))) (fun _ i _=>hs.length - (intOf i).toNat)
 case atStart=>exact ⟨0,by omega,rfl,Grow.refl _,OwnC.nil _ _ _ _ _⟩
 case round=>
  obtain ⟨k,hk',rfl,hb,hown⟩:=hrel
  have hl3:=HL.out
  by_cases hlt:k < hs.length
  ·have HTK:=Lib.hid (map_next (fun n=>(⟨5,d,n,[]⟩:Ms)) hlt)
   have HLK:=Lib.hid (show ((hs.take k).map (fun n=>(⟨5,d,n,[]⟩:Ms))).length ≤ 3 by rw [List.length_map,List.length_take];omega)
   obtain ⟨bx,ox,rfl,x0,hni⟩:=intAt hel k hlt
   replace x0:=hb.sub _ _ x0
   have HNI:=Lib.hid hni
   have HOWN:=Lib.hid hown
   have HB:=Lib.hid hb
   obtain ⟨av,cv,rfl⟩:=hown.form
   clear hown hb hel hni
   generalize hs[k] = n at *
   generalize (hs.take k).map (fun n=>(⟨5,d,n,[]⟩:Ms)) = ms at *
   go_wp2_with (first | (at_builtin;refine wpList_appc (c:=fun _=>none) (base:=w1.heap.size) (l:=ms) (m:=[⟨5,d,n,[]⟩]) ei_ms rfl one_Tms (by decide) rfl (.tmp 15) (.tmp 19) rfl rfl ?own rfl (Src.of_new (T:=Ty.ms) (x:=⟨5,d,n,[]⟩) (cs:=#[.int .i64 5,.int .i64 d,.int .i64 n,.slice none 0 0]) ⟨_,rfl,(show I64 5 from by unfold I64;decide),HD.out,HNI.out,Sl.nil _ _⟩ _ _ ?d1) ?d2 ?d3 ?_))
   case own=>exact HOWN.out.grow ((Grow.refl _).alloc _)
   case d1=>first | rfl | simp
   case d2=>have:=HLK.out;simp;omega
   case d3=>have:=HB.out.size;simp;omega
   intro a9 c9 w9 ho9 hg9 hb9
   have HG9:Hid (Grow w1 w9):=Lib.hid (grow_by (w0:=w1) (HB.out.alloc _) hg9 (fun q hq=>(HOWN.out.lt q hq).1))
   have HO9:=Lib.hid ho9
   clear ho9 hg9 hb9
   go_wp2
   go_roundw
   case rel=>exact ⟨k + 1,by omega,by go_num,HG9.out,by rw [HTK.out];exact HO9.out⟩
   case measure=>simp [intOf];omega
  ·have HOWN:=Lib.hid hown
   have HB:=Lib.hid hb
   clear hown hb hel
   go_wp2
   go_ret
   have h9:=HOWN.out
   rw [List.take_of_length_le (by omega),HAE.out] at h9
   exact ⟨_,rfl,h9.base G1.out.size,G1.out.trans HB.out⟩
structure OpnAt (w:World) (b p:Nat) (o:Opn) (ap:Option Addr) (cp:Nat) (ah:Option Addr) (ch:Nat):Prop where
 c0:w.cell? ⟨b,p,none⟩ = some (.int .i64 o.deed)
 c1:w.cell? ⟨b,p + 1,none⟩ = some (.slice ap o.parts.length cp)
 c2:w.cell? ⟨b,p + 2,none⟩ = some (.bool o.dec)
 c3:w.cell? ⟨b,p + 3,none⟩ = some (.slice ah o.heard.length ch)
 i0:I64 o.deed
 parts:Sl Ty.pt w.cell? (.slice ap o.parts.length cp) o.parts
 heard:Sl Ty.int w.cell? (.slice ah o.heard.length ch) o.heard
theorem OpnAt.grow {w W:World} {b p:Nat} {o:Opn} {ap:Option Addr} {cp:Nat} {ah:Option Addr} {ch:Nat} (h:OpnAt w b p o ap cp ah ch) (hg:Grow w W):OpnAt W b p o ap cp ah ch:=
 ⟨hg.sub _ _ h.c0,hg.sub _ _ h.c1,hg.sub _ _ h.c2,hg.sub _ _ h.c3,h.i0,h.parts.mono hg.sub,h.heard.mono hg.sub⟩
set_option maxRecDepth 100000 in
set_option maxHeartbeats 2000000 in
theorem head_asks {b p:Nat} {o:Opn} {ap:Option Addr} {cp:Nat} {ah:Option Addr} {ch:Nat} (w:World) (ho:OpnAt w b p o ap cp ah ch) (hr:PtsR o.parts) :
  Calls Try.prog 154 #[.pointer (some ⟨b,p,none⟩)] w fun e w'=>∃ v',e = .returned v'∧OwnC Ty.ms (fr w w' [v'.ownBlock]) w' w.heap.size 39 v' (asksE o)∧Grow w w':=by
 have HHO:=Lib.hid (part_houses w ho.parts (by have:=hr.len;omega) hr.ne hr.lt)
 have HOF:=Lib.hid (fun (n:Int) (W:World) (hW:Grow w W)=>part_of (n:=n) W (ho.parts.mono hW.sub) (by have:=hr.len;omega))
 have HIN:=Lib.hid (fun (n:Int) (W:World) (hW:Grow w W)=>contains_int (n:=n) W (ho.heard.mono hW.sub))
 have HAT:=Lib.hid ho
 have HPK:=Lib.hid (Pts.ok ho.parts)
 obtain ⟨c0,c1,c2,c3,-,-,-⟩:=ho
 clear hr
 go_enter Try.func154,Try.ntmps154
 go_wp2_with fail
 refine HHO.out.mono ?_
 rintro e w1 ⟨v1,rfl,ho1,hb1⟩
 obtain ⟨a1,c1',rfl⟩:=owns_form ho1
 have hix:=ints_of ho1 (houses_ok o.parts)
 have G1:=Lib.hid hb1
 have HL:=Lib.hid (houses_short o.parts)
 have HAE:Hid (((housesE o.parts).filter (askQ o)).map (commitM o) = asksE o):=Lib.hid rfl
 clear ho1 hb1 c0 c1 c2 c3
 generalize housesE o.parts = hs at *
 obtain ⟨a1',d1',he1,-,-,-,hel⟩:=hix
 obtain ⟨rfl,rfl⟩:a1 = a1'∧c1' = d1':=by simpa using he1
 clear he1
 go_wp2
 go_loopw [3,13] (fun s3 i wr=>∃ k:Nat,k ≤ hs.length∧i = .int .i64 k∧Grow w1 wr∧OwnC Ty.ms (fr w1 wr [s3.ownBlock]) wr w1.heap.size 39 s3 (((hs.take k).filter (askQ o)).map (commitM o))) (fun _ i _=>hs.length - (intOf i).toNat)
 case atStart=>exact ⟨0,by omega,rfl,Grow.refl _,OwnC.nil _ _ _ _ _⟩
 case round=>
  obtain ⟨k,hk',rfl,hb,hown⟩:=hrel
  have hl3:=HL.out
  by_cases hlt:k < hs.length
  ·have HTK:=Lib.hid (fmap_next (askQ o) (commitM o) hlt)
   have HLK:=Lib.hid (show (((hs.take k).filter (askQ o)).map (commitM o)).length ≤ 3 by rw [List.length_map];exact Nat.le_trans (List.length_filter_le _ _) (by simp;omega))
   obtain ⟨bx,ox,rfl,x0,hni⟩:=intAt hel k hlt
   replace x0:=hb.sub _ _ x0
   have HNI:=Lib.hid hni
   have HOWN:=Lib.hid hown
   have HB:=Lib.hid hb
   have GW:=Lib.hid (G1.out.trans hb)
   obtain ⟨av,cv,rfl⟩:=hown.form
   clear hown hb hel hni
   generalize hs[k] = n at *
   generalize ((hs.take k).filter (askQ o)).map (commitM o) = ms at *
   obtain ⟨wx,rfl⟩:∃ x:World,x = wr:=⟨_,rfl⟩
   obtain ⟨c0,c1,c2,c3,i0,-,-⟩:=HAT.out.grow GW.out
   have HI0:=Lib.hid i0
   have zb:b < wx.heap.size:=World.block_lt_of_cell? wx _ c0
   clear i0
   by_cases hd:o.dec = true
   ·have HCM:Hid (commitM o n = ⟨4,o.deed,n,[]⟩):=Lib.hid (by unfold commitM;rw [if_pos hd])
    rw [hd] at c2
    have HS:Hid (Ty.ms.R (fun _=>none) [.int .i64 4,.int .i64 o.deed,.int .i64 n,.slice none 0 0] ⟨4,o.deed,n,[]⟩):=Lib.hid ⟨_,rfl,(show I64 4 from by unfold I64;decide),HI0.out,HNI.out,Sl.nil _ _⟩
    have HDE:=Lib.hid hd
    clear hd
    go_wp2_with fail
    refine (HIN.out n _ (GW.out.alloc _)).mono ?_
    rintro e w2 ⟨rfl,hb2⟩
    have G2:=Lib.hid (((Grow.refl wx).alloc _).trans hb2)
    have R5:=Lib.hid (row_grow (row_new wx (.cells #[.int .i64 4,.int .i64 o.deed,.int .i64 n,.slice none 0 0] 39)) hb2)
    clear hb2 c0 c1 c2 c3 x0
    obtain ⟨r0,r1,r2,r3⟩:=cells4 R5.out
    have z1:wx.heap.size < w2.heap.size:=(Array.getElem?_eq_some_iff.1 R5.out).1
    by_cases hq:n ∈ o.heard
    ·have hqb:decide (n ∈ o.heard) = true:=decide_eq_true hq
     have HT:=Lib.hid HTK.out
     rw [if_neg (by show ¬ askQ o n = true;simp [askQ,hq])] at HT
     rw [hqb]
     clear hq
     go_wp2
     go_roundw
     case rel=>exact ⟨k + 1,by omega,by go_num,HB.out.trans G2.out,by rw [HT.out];exact (HOWN.out.mono (fr_grow G2.out)).grow G2.out⟩
     case measure=>simp [intOf];omega
    ·have hqb:decide (n ∈ o.heard) = false:=decide_eq_false hq
     have HT:=Lib.hid HTK.out
     rw [if_pos (by show askQ o n = true;simp [askQ,hq]),HCM.out] at HT
     rw [hqb]
     clear hq
     go_wp2_with (first | (at_builtin;refine wpList_appc (c:=fr w1 w2 [(Value.slice av ms.length cv).ownBlock]) (base:=w1.heap.size) (l:=ms) (m:=[⟨4,o.deed,n,[]⟩]) ei_ms rfl one_Tms (by decide) rfl (.tmp 43) (.tmp 45) rfl rfl ?own rfl (Src.of_new (T:=Ty.ms) (x:=⟨4,o.deed,n,[]⟩) (cs:=#[.int .i64 4,.int .i64 o.deed,.int .i64 n,.slice none 0 0]) (Ty.ms.mono (fun _ _ e=>by cases e) HS.out) _ _ ?d1) ?d2 ?d3 ?_))
     case own=>exact ((HOWN.out.mono (fr_grow G2.out)).grow G2.out).grow ((Grow.refl _).alloc _)
     case d1=>first | rfl | simp
     case d2=>have:=HLK.out;simp;omega
     case d3=>have:=HB.out.size;have:=G2.out.size;simp;omega
     intro a9 c9 w9 ho9 hg9 hb9
     have HG9:Hid (Grow w1 w9):=Lib.hid (grow_by (w0:=w1) ((HB.out.trans G2.out).alloc _) hg9 (fun q hq=>(HOWN.out.lt q hq).1))
     have HO9:=Lib.hid ((ho9.mono (fr_grow ((Grow.refl w2).alloc (.cells #[.int .i64 4,.int .i64 o.deed,.int .i64 n,.slice none 0 0] 39)))).mono (fr_app hg9 (hb9.imp_right fun ⟨g,e,hge⟩=>⟨g,e,by simpa using hge⟩)))
     clear ho9 hg9 hb9
     go_wp2
     go_roundw
     case rel=>exact ⟨k + 1,by omega,by go_num,HG9.out,by rw [HT.out];exact HO9.out⟩
     case measure=>simp [intOf];omega
   ·have hd':o.dec = false:=by simpa using hd
    have HCM:Hid (commitM o n = ⟨1,o.deed,n,ofL o.parts n⟩):=Lib.hid (by unfold commitM;rw [if_neg hd])
    rw [hd'] at c2
    have HDE:=Lib.hid hd'
    clear hd hd'
    go_wp2_with fail
    refine (HOF.out n _ (GW.out.alloc _)).mono ?_
    rintro e w5 ⟨v5,rfl,ho5,hb5⟩
    obtain ⟨a5,c5,rfl⟩:=ho5.form
    have HO5:=Lib.hid ho5
    have G5:=Lib.hid (((Grow.refl wx).alloc _).trans hb5)
    have R5:=Lib.hid (row_grow (row_new wx (.cells #[.int .i64 4,.int .i64 o.deed,.int .i64 n,.slice none 0 0] 39)) hb5)
    have HLT5:Hid (∀ q,(Value.slice a5 (ofL o.parts n).length c5).ownBlock = some q→wx.heap.size + 1 ≤ q):=Lib.hid (fun q hq=>by have:=(ho5.lt q hq).1;simpa using this)
    have HAT5:=Lib.hid (HAT.out.grow (GW.out.trans G5.out))
    clear ho5 hb5 c0 c1 c2 c3 x0
    generalize ofL o.parts n = pl at *
    obtain ⟨r0,r1,r2,r3⟩:=cells4 R5.out
    obtain ⟨c0,c1,c2,c3,-,-,-⟩:=HAT5.out
    have zb5:b < w5.heap.size:=World.block_lt_of_cell? w5 _ c0
    have HNE:Hid (b ≠ wx.heap.size):=Lib.hid (by omega)
    have z1:wx.heap.size < w5.heap.size:=(Array.getElem?_eq_some_iff.1 R5.out).1
    go_wp2_with (first | (refine wpList_store_cell rfl (.tmp 34) _ (v:=.int .i64 1) (new:=#[.int .i64 1,.int .i64 o.deed,.int .i64 n,.slice none 0 0]) rfl rfl (by rfl) (by rfl) R5.out info_int1 (by simp) (by rfl) (by rfl) ?_))
    intro w6 r6 g6
    have R6:=Lib.hid r6
    have HG6:=Lib.hid g6
    clear r0 r1 r2 r3 c0 c1 c2 c3 z1 zb zb5 r6 g6
    obtain ⟨r0,r1,r2,r3⟩:=cells4 R6.out
    have z1:wx.heap.size < w6.heap.size:=(Array.getElem?_eq_some_iff.1 R6.out).1
    go_wp2_with (first | (refine wpList_store_cell rfl (.tmp 35) (.tmp 33) (v:=.slice a5 pl.length c5) (new:=#[.int .i64 1,.int .i64 o.deed,.int .i64 n,.slice a5 pl.length c5]) rfl rfl (by rfl) (by rfl) R6.out info_pts1 (by simp) (by rfl) (by rfl) ?_))
    intro w7 r7 g7
    have R7:=Lib.hid r7
    have G7:Hid (Grow wx w7):=Lib.hid ((G5.out.grown HG6.out (fun q hq=>by have:=Option.some.inj hq;omega)).grown g7 (fun q hq=>by have:=Option.some.inj hq;omega))
    have HO7:=Lib.hid ((HO5.out.kept HG6.out (off_of (fun q hq=>by have:=HLT5.out q hq;omega))).kept g7 (off_of (fun q hq=>by have:=HLT5.out q hq;omega)))
    clear r0 r1 r2 r3 z1 r7 g7
    obtain ⟨r0,r1,r2,r3⟩:=cells4 R7.out
    obtain ⟨c0,c1,c2,c3,-,-,hh7⟩:=HAT.out.grow (GW.out.trans G7.out)
    have z1:wx.heap.size < w7.heap.size:=(Array.getElem?_eq_some_iff.1 R7.out).1
    have zb7:b < w7.heap.size:=World.block_lt_of_cell? w7 _ c0
    clear hh7
    go_wp2_with fail
    refine (HIN.out n _ (GW.out.trans G7.out)).mono ?_
    rintro e w2 ⟨rfl,hb2⟩
    have G2:=Lib.hid (G7.out.trans hb2)
    have R2:=Lib.hid (row_grow R7.out hb2)
    have HO2:=Lib.hid (HO7.out.grow hb2)
    clear hb2 c0 c1 c2 c3 r0 r1 r2 r3 z1 zb7
    obtain ⟨r0,r1,r2,r3⟩:=cells4 R2.out
    have z1:wx.heap.size < w2.heap.size:=(Array.getElem?_eq_some_iff.1 R2.out).1
    by_cases hq:n ∈ o.heard
    ·have hqb:decide (n ∈ o.heard) = true:=decide_eq_true hq
     have HT:=Lib.hid HTK.out
     rw [if_neg (by show ¬ askQ o n = true;simp [askQ,hq])] at HT
     rw [hqb]
     clear hq
     go_wp2
     go_roundw
     case rel=>exact ⟨k + 1,by omega,by go_num,HB.out.trans G2.out,by rw [HT.out];exact (HOWN.out.mono (fr_grow G2.out)).grow G2.out⟩
     case measure=>simp [intOf];omega
    ·have hqb:decide (n ∈ o.heard) = false:=decide_eq_false hq
     have HT:=Lib.hid HTK.out
     rw [if_pos (by show askQ o n = true;simp [askQ,hq]),HCM.out] at HT
     rw [hqb]
     clear hq
     go_wp2_with (first | (at_builtin;refine wpList_appc (c:=fr w1 (w2.alloc (.cells #[.int .i64 1,.int .i64 o.deed,.int .i64 n,.slice a5 pl.length c5] 39)) [(Value.slice av ms.length cv).ownBlock]) (base:=w1.heap.size) (l:=ms) (m:=[⟨1,o.deed,n,pl⟩]) ei_ms rfl one_Tms (by decide) rfl (.tmp 43) (.tmp 45) rfl rfl ?own rfl (Src.of_new (T:=Ty.ms) (x:=⟨1,o.deed,n,pl⟩) (cs:=#[.int .i64 1,.int .i64 o.deed,.int .i64 n,.slice a5 pl.length c5]) ?d0 _ _ ?d1) ?d2 ?d3 ?_))
     case own=>exact ((HOWN.out.mono (fr_grow (G2.out.alloc _))).grow (G2.out.alloc _))
     case d0=>exact ⟨_,rfl,(show I64 1 from by unfold I64;decide),HI0.out,HNI.out,(HO2.out.grow ((Grow.refl _).alloc _)).slb (by decide) (fun a v e=>by cases e) fun a ha=>fr_new (by have:=HLT5.out _ ha;have:=HB.out.size;omega) (by
      simp only [List.mem_singleton]
      intro e
      have:=(HOWN.out.lt _ e.symm).2
      have:=HLT5.out _ ha;omega)⟩
     case d1=>first | rfl | simp
     case d2=>have:=HLK.out;simp;omega
     case d3=>have:=HB.out.size;have:=G2.out.size;simp;omega
     intro a9 c9 w9 ho9 hg9 hb9
     have HG9:Hid (Grow w1 w9):=Lib.hid (grow_by (w0:=w1) ((HB.out.trans G2.out).alloc _) hg9 (fun q hq=>(HOWN.out.lt q hq).1))
     have HO9:=Lib.hid (ho9.mono (fr_app hg9 (hb9.imp_right fun ⟨g,e,hge⟩=>⟨g,e,by simpa using hge⟩)))
     clear ho9 hg9 hb9
     go_wp2
     go_roundw
     case rel=>exact ⟨k + 1,by omega,by go_num,HG9.out,by rw [HT.out];exact HO9.out⟩
     case measure=>simp [intOf];omega
  ·have HOWN:=Lib.hid hown
   have HB:=Lib.hid hb
   clear hown hb hel
   go_wp2
   go_ret
   have h9:=HOWN.out
   rw [List.take_of_length_le (by omega),HAE.out] at h9
   exact ⟨_,rfl,(h9.mono (fr_low G1.out.size)).base G1.out.size,G1.out.trans HB.out⟩
def hsCells0:List Value:=[.slice none 0 0,.int .i64 0,.int .i64 0,.int .i64 0,.int .i64 0,.slice none 0 0,.slice none 0 0]
theorem hs0_cells (c:CM):Ty.hs.R c hsCells0 hs0:=⟨_,_,_,rfl,Sl.nil _ _,zero_ok,zero_ok,zero_ok,zero_ok,Sl.nil _ _,Sl.nil _ _⟩
theorem make_houses {n:Nat} (h:1 ≤ n∧n ≤ 3):∃ cs:Array Value,(∀ w:World,(Instr.makeSlice 91 (.int .i64 n) (.int .i64 n)).run Try.prog w = .ok (.slice (some ⟨w.heap.size,0,none⟩) n n) (w.alloc (.cells cs 29)))∧
  ∀ (w:World),OwnC Ty.hs (fun _=>none) (w.alloc (.cells cs 29)) w.heap.size 29 (.slice (some ⟨w.heap.size,0,none⟩) n n) (List.replicate n hs0):=by
 have key:∀ (m:Nat) (cs:Array Value),m ≤ 3→cs.toList = (List.replicate m hs0).flatMap (fun _=>hsCells0)→∀ (w:World),OwnC Ty.hs (fun _=>none) (w.alloc (.cells cs 29)) w.heap.size 29 (.slice (some ⟨w.heap.size,0,none⟩) m m) (List.replicate m hs0):=by
  intro m cs hm hc w
  have h1:=World.ownsRow_lit (base:=w.heap.size) (e:=29) (size:=7) w cs m (Nat.le_refl _) (by unfold maxLen;omega) (by rw [← Array.length_toList,hc,flat_len (f:=fun _=>hsCells0) (size:=7) (fun _=>rfl)];simp)
  rw [hc] at h1
  exact OwnC.of_flat (T:=Ty.hs) (f:=fun _=>hsCells0) (c:=fun _=>none) (l:=List.replicate m hs0) (by rw [List.length_replicate];exact h1) (fun x hx=>by
   rw [List.eq_of_mem_replicate hx]
   exact hs0_cells _)
 obtain ⟨h1,h2⟩:=h
 match n,h1,h2 with
 | 1,_,_=>exact ⟨hsCells0.toArray,fun w=>by kernel_rfl,key 1 _ (by decide) rfl⟩
 | 2,_,_=>exact ⟨(hsCells0 ++ hsCells0).toArray,fun w=>by kernel_rfl,key 2 _ (by decide) rfl⟩
 | 3,_,_=>exact ⟨(hsCells0 ++ hsCells0 ++ hsCells0).toArray,fun w=>by kernel_rfl,key 3 _ (by decide) rfl⟩
theorem ei_hs:EI Try.prog 91 29 7 104:=EI.mk' (z:=.agg #[.slice none 0 0,.int .i64 0,.int .i64 0,.int .i64 0,.int .i64 0,.slice none 0 0,.slice none 0 0]) (by kernel_rfl) (by kernel_rfl) rfl (by decide) rfl
theorem info_wd:(Try.prog.info? 93).map (·.size) = some 6:=by kernel_rfl
theorem info_hss:(Try.prog.info? 91).map (·.size) = some 1:=by kernel_rfl
theorem info_nets:(Try.prog.info? 79).map (·.size) = some 1:=by kernel_rfl
set_option maxRecDepth 100000 in
set_option maxHeartbeats 4000000 in
theorem ref_with {c:CM} {v vh:Value} {x:AW} {h:Hs} {k:Nat} (w:World) (hc:Sub c w.cell?) (hv:Of Ty.wd c v x) (hh:Of Ty.hs c vh h) (hk:k < x.houses.length) (h3:x.houses.length ≤ 3) :
  Calls Try.prog 167 #[v,.int .i64 k,vh] w fun e w'=>∃ v',e = .returned v'∧Of Ty.wd (ov c w w') v' { x with houses:=x.houses.set k h }∧Grow w w':=by
 obtain ⟨al,cl,ao,co,ah,ch,an,cn,rfl⟩:=hv.wd_form
 obtain ⟨al2,cl2,ar2,cr2,ad2,cd2,rfl⟩:=hh.hs_form
 obtain ⟨q1,q2,q3⟩:=hv.wd_parts
 have HQ1:=Lib.hid q1
 have HQ2:=Lib.hid q2
 have HQ3:=Lib.hid q3
 have HHR:Hid (Ty.hs.R c [.slice al2 h.log.length cl2,.int .i64 h.sums.a,.int .i64 h.sums.b,.int .i64 h.sums.c,.int .i64 h.sums.d,.slice ar2 h.ready.length cr2,.slice ad2 h.done.length cd2] h):=Lib.hid (by obtain ⟨cs,he,hr⟩:=hh;cases he;exact hr)
 have HC:=Lib.hid hc
 clear hv hh q1 q2 q3 hc
 obtain ⟨wa,hwa⟩:∃ y:World,y = w.alloc (.cells #[.slice al x.head.log.length cl,.int .i64 x.head.boot,.int .i64 x.head.next,.slice ao x.head.opn.length co,.slice ah x.houses.length ch,.slice an x.net.length cn] 93):=⟨_,rfl⟩
 obtain ⟨wb,hwb⟩:∃ y:World,y = wa.alloc (.cells #[.slice al2 h.log.length cl2,.int .i64 h.sums.a,.int .i64 h.sums.b,.int .i64 h.sums.c,.int .i64 h.sums.d,.slice ar2 h.ready.length cr2,.slice ad2 h.done.length cd2] 29):=⟨_,rfl⟩
 obtain ⟨wz,hwz⟩:∃ y:World,y = wb.alloc (.cells #[.slice none 0 0,.int .i64 0,.int .i64 0,.slice none 0 0,.slice none 0 0,.slice none 0 0] 93):=⟨_,rfl⟩
 have hsa:wa.heap.size = w.heap.size + 1:=by rw [hwa];simp
 have hsb:wb.heap.size = w.heap.size + 2:=by rw [hwb];simp [hsa]
 have R3:Hid (wz.heap[w.heap.size]? = some (.cells #[.slice al x.head.log.length cl,.int .i64 x.head.boot,.int .i64 x.head.next,.slice ao x.head.opn.length co,.slice ah x.houses.length ch,.slice an x.net.length cn] 93 (0,0))):=Lib.hid (by rw [hwz,hwb,hwa];exact heap_later (heap_later (row_new _ _) _) _)
 have R5:Hid (wz.heap[w.heap.size + 1]? = some (.cells #[.slice al2 h.log.length cl2,.int .i64 h.sums.a,.int .i64 h.sums.b,.int .i64 h.sums.c,.int .i64 h.sums.d,.slice ar2 h.ready.length cr2,.slice ad2 h.done.length cd2] 29 (0,0))):=Lib.hid (by rw [hwz,hwb,← hsa];exact heap_later (row_new _ _) _)
 have R6:Hid (wz.heap[w.heap.size + 2]? = some (.cells #[.slice none 0 0,.int .i64 0,.int .i64 0,.slice none 0 0,.slice none 0 0,.slice none 0 0] 93 (0,0))):=Lib.hid (by rw [hwz,← hsb];exact row_new _ _)
 have G1:Hid (Grow w wz):=Lib.hid (by rw [hwz,hwb,hwa];exact (((Grow.refl w).alloc _).alloc _).alloc _)
 have HZ:Hid (wz.heap.size = w.heap.size + 3):=Lib.hid (by rw [hwz];simp [hsb])
 go_enter Try.func167,Try.ntmps167
 go_upto_region 1 with fail
 rw [← hwa]
 try rw [hsa]
 rw [← hwb]
 try rw [hsb]
 rw [← hwz]
 clear hwa hwb hwz hsa hsb
 obtain ⟨c0,c1,c2,c3,c4,c5⟩:=cells6 R3.out
 have z1:w.heap.size < wz.heap.size:=(Array.getElem?_eq_some_iff.1 R3.out).1
 go_wp2_with (first | (at_builtin;refine wpList_appc (c:=c) (base:=w.heap.size + 3) (l:=[]) (m:=x.houses) (v:=.slice (some ⟨wz.heap.size,0,none⟩) 0 0) ei_hs rfl one_Ths (by decide) rfl (.tmp 7) (.tmp 9) rfl rfl (OwnC.made0 Ty.hs _ _ _ _ ?c1 ?c1') rfl ?src ?c3 ?c4 ?_))
 case c1=>rw [HZ.out];exact Nat.le_refl _
 case c1'=>rfl
 case src=>exact Src.of_sl_c (by decide) (HC.out.trans (G1.out.alloc _).sub) HQ2.out
 case c3=>(try simp);omega
 case c4=>have:=HZ.out;(try simp);omega
 intro a8 c8 w8 ho8 hg8 hb8
 try simp only [List.length_nil,Nat.zero_add,List.nil_append] at ho8
 try simp only [List.length_nil,Nat.zero_add]
 have HO8:=Lib.hid ho8
 have G8:=Lib.hid (grow_by (w0:=wz) ((Grow.refl wz).alloc _) hg8 (own_at (Nat.le_refl _)))
 have R38:=Lib.hid (row_grow R3.out G8.out)
 have R58:=Lib.hid (row_grow R5.out G8.out)
 have R68:=Lib.hid (row_grow R6.out G8.out)
 clear ho8 hg8 hb8 c0 c1 c2 c3 c4 c5 z1
 go_wp2_with (first | (refine wpList_store_cell rfl (.tmp 11) (.tmp 10) (v:=.slice a8 x.houses.length c8) (new:=#[.slice al x.head.log.length cl,.int .i64 x.head.boot,.int .i64 x.head.next,.slice ao x.head.opn.length co,.slice a8 x.houses.length c8,.slice an x.net.length cn]) rfl rfl (by rfl) (by rfl) R38.out info_hss (by simp) (by rfl) (by rfl) ?_))
 intro w9 r9 g9
 have R39:=Lib.hid r9
 have G9:=Lib.hid ((G1.out.trans G8.out).grown g9 (fun q hq=>by simp at hq;omega))
 have R59:=Lib.hid (row_by R58.out g9 (by intro e;have:=Option.some.inj e;omega))
 have R69:=Lib.hid (row_by R68.out g9 (by intro e;have:=Option.some.inj e;omega))
 have HO9:=Lib.hid (HO8.out.kept g9 (own_apart HO8.out (by omega)))
 clear r9 g9
 obtain ⟨g,-,rfl,-,-⟩:=HO9.out.get (by decide) k hk
 obtain ⟨c0,c1,c2,c3,c4,c5⟩:=cells6 R39.out
 obtain ⟨d0,d1,d2,d3,d4,d5,d6⟩:=cells7 R59.out
 have z1:w.heap.size < w9.heap.size:=(Array.getElem?_eq_some_iff.1 R39.out).1
 have z2:w.heap.size + 1 < w9.heap.size:=(Array.getElem?_eq_some_iff.1 R59.out).1
 have hkc:(k:Int) < (x.houses.length:Int):=by omega
 go_wp2_with (first | (refine wpList_store_el (T:=Ty.hs) (c:=c) (base:=w.heap.size + 3) (i:=k) (l:=x.houses) (x:=h) (cells:=#[.slice al2 h.log.length cl2,.int .i64 h.sums.a,.int .i64 h.sums.b,.int .i64 h.sums.c,.int .i64 h.sums.d,.slice ar2 h.ready.length cr2,.slice ad2 h.done.length cd2]) rfl (.tmp 16) (.tmp 15) rfl rfl (by rfl) ?ps HO9.out hk info_hs HHR.out rfl ?_))
 case ps=>first | rfl | (simp [Ty.hs];done) | (show _ = k * 7;omega)
 intro w10 ho10 g10
 have hgl:=(HO9.out.lt g rfl).1
 have R310:=Lib.hid (row_by R39.out g10 (by intro e;have:=Option.some.inj e;omega))
 have R610:=Lib.hid (row_by R69.out g10 (by intro e;have:=Option.some.inj e;omega))
 have HO10:=Lib.hid ho10
 have G10:=Lib.hid (G9.out.grown g10 (fun q hq=>by simp at hq;omega))
 clear ho10 g10 c0 c1 c2 c3 c4 c5 d0 d1 d2 d3 d4 d5 d6 z1 z2
 obtain ⟨c0,c1,c2,c3,c4,c5⟩:=cells6 R310.out
 have z1:w.heap.size < w10.heap.size:=(Array.getElem?_eq_some_iff.1 R310.out).1
 go_wp2_with (first | (refine wpList_store_row rfl (.tmp 6) (.tmp 17) rfl rfl rfl R610.out info_wd rfl rfl ?_))
 intro w7 r7 g7
 obtain ⟨p0,p1,p2,p3,p4,p5⟩:=cells6 r7
 clear c0 c1 c2 c3 c4 c5
 go_wp2
 refine bodyPost_ret (v:=.agg #[.slice al x.head.log.length cl,.int .i64 x.head.boot,.int .i64 x.head.next,.slice ao x.head.opn.length co,.slice (some ⟨g,0,none⟩) x.houses.length c8,.slice an x.net.length cn]) (by simp [results,Try.results167,go_sem,p0,p1,p2,p3,p4,p5]) rfl ?_
 have G7:=G10.out.grown g7 (fun q hq=>by simp at hq;omega)
 refine ⟨_,rfl,Of.wd_mk (HQ1.out.mono (ov_in HC.out)) ?_ (HQ3.out.mono (ov_in HC.out)),G7⟩
 have h9:=OwnC.slc (d:=ov c w w7) (by decide) (HO10.out.kept g7 (.inr (by simp [Value.ownBlock];omega))) (ov_in HC.out) fun a ha=>ov_new (by omega)
 exact h9
theorem one_boot {c:CM} (w:World) {b:Nat} (hb:b ≤ w.heap.size):OwnC Ty.rc c (w.alloc (.cells #[.int .i64 4,.int .i64 0,.slice none 0 0] 48)) b 48 (.slice (some ⟨w.heap.size,0,none⟩) 1 1) [⟨4,0,[]⟩]:=
 ⟨[[.int .i64 4,.int .i64 0,.slice none 0 0]],World.ownsRow_lit w #[.int .i64 4,.int .i64 0,.slice none 0 0] 1 hb (by decide) rfl,rfl,fun i cs x a b=>by
  match i with
  | 0=>
   simp only [List.getElem?_cons_zero,Option.some.injEq] at a b
   subst a;subst b
   exact ⟨_,rfl,(show I64 4 by unfold I64;decide),zero_ok,Sl.nil _ _⟩
  | i + 1=>simp at a⟩
end Go.Proofs.Ytgbhpghgohggcaa
