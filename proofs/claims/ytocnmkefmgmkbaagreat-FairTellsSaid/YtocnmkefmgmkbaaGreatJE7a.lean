/- Parts of proofs, joined: U15, U16, U17, U18, Z7, Z75, Z8, U19. No condition beside those that each theorem names. -/
import Derived.Deep.DeepCutAuto
import Derived.Test.YtocnmkefmgmkbaaGreatJE1b
import Derived.Test.YtocnmkefmgmkbaaGreatJE6a
import Derived.Test.YtocnmkefmgmkbaaGreatJE4b
import Derived.Test.YtocnmkefmgmkbaaGreatJEUa
import Derived.Test.YtocnmkefmgmkbaaGreatJEHa
set_option maxRecDepth 100000
set_option maxHeartbeats 40000000
namespace Go.Proofs.YtocnmkefmgmkbaaGreat
open Go.RowKit
theorem YU {c:CM} {W W0 w1:World} (hc:Sub c W.cell?) (h0:aK W W0):Sub (ov c W0 w1) (ov c W w1):=fun a v e=>by
 have hs:=h0.size;unfold ov at e ⊢;split at e
 ·have hl:=eH W a (hc _ _ e)
  rw [bC hl];exact e
 ·rw [aV V];exact e
theorem Ve {n:Nat} {G:Reg} {x:AW} {P:List Pt} (i:WI n G x) (hw:dO P x.aI.length=0):∀m∈nM x.aN P,cZ m=0:=by
 cases hf:uI x.aN with
 |true=>rw [(sG (P:=P) hf).2.1];intro m hm;simp at hm
 |false=>
  rw [i.core.len] at hw;obtain⟨c,N,Y⟩:=i.core.begin hw hf;exact WI.says Y
end Go.Proofs.YtocnmkefmgmkbaaGreat
namespace Go.Proofs.YtocnmkefmgmkbaaGreat
theorem Vf:∀{n:Nat} {l:List UInt8} {xs:List Int} {r:List UInt8},mG n l=.inl (xs,r)->xs.length=n
 |0,l,xs,r,h=>by
  simp only [mG,Sum.inl.injEq,Prod.mk.injEq] at h;rw [<-h.1];rfl
 |n+1,l,xs,r,h=>by
  rw [mG] at h;split at h
  ·cases hn:mG n (l.drop (gU l).2.1.toNat) with
   |inl p=>
    obtain⟨ys,r'⟩:=p;rw [hn] at h;simp only [Sum.inl.injEq,Prod.mk.injEq] at h;rw [<-h.1,List.length_cons,Vf hn]
   |inr e=>rw [hn] at h;cases h
  ·cases h
def FT (j:Nat):Sum (List Int×List UInt8) Int->Sum (List Int×List UInt8) Int
 | .inl (xs,r)=>match mG j r with
  | .inl (ys,r')=>.inl (xs++ys,r')
  | .inr e=>.inr e
 | .inr e=>.inr e
theorem BA (j:Nat):∀(k:Nat) (l:List UInt8),mG (k+j) l=FT j (mG k l)
 |0,l=>by
  rw [Nat.zero_add];show mG j l=FT j (.inl ([],l));unfold FT;cases h:mG j l with
  |inl p=>obtain⟨ys,r'⟩:=p;simp [h]
  |inr e=>simp [h]
 |k+1,l=>by
  rw [show k+1+j=(k+j)+1 by omega,mG,mG];by_cases h:(gU l).2.2=0
  ·rw [bC h,bC h,BA j k]
   cases hk:mG k (l.drop (gU l).2.1.toNat) with
   |inl p=>
    obtain⟨xs,r⟩:=p;simp only [FT];cases hj:mG j r with
    |inl q=>obtain⟨ys,r'⟩:=q;simp
    |inr e=>simp
   |inr e=>simp [FT]
  ·rw [aV h,aV h];simp [FT]
structure BF (l:List UInt8) (xs:List Int) (r:List UInt8) (want:Int):Prop where
 got:mG xs.length l=.inl (xs,r)
 few:xs.length<3->want=3
 more:3<=xs.length->0<=xs.getD 2 0/\xs.getD 2 0<=4/\want=3+2*xs.getD 2 0
 le:(xs.length:Int)<=want
theorem BF.start (l:List UInt8):BF l [] l 3:=⟨rfl,fun _=>rfl,fun h=>by simp at h,σ⟩
theorem FU {l r:List UInt8} {xs:List Int} (h:mG xs.length l=.inl (xs,r)):mG (xs.length+1) l=if(gU r).2.2=0 then .inl (xs++ [(gU r).1],r.drop (gU r).2.1.toNat) else .inr (gU r).2.2:=by
 rw [BA,h];by_cases hc:(gU r).2.2=0<;>simp [FT,mG,hc]
theorem Nb {l r:List UInt8} {xs:List Int} {j:Nat} (h:mG xs.length l=.inl (xs,r)) (hj:xs.length=3+j):∃r3,mG 3 l=.inl (xs.take 3,r3)/\mG j r3=.inl (xs.drop 3,r):=by
 rw [hj,BA] at h;cases h3:mG 3 l with
 |inr e=>rw [h3] at h;simp [FT] at h
 |inl p=>
  obtain⟨ys,r3⟩:=p;have hl:=Vf h3;rw [h3] at h;simp only [FT] at h;cases h4:mG j r3 with
  |inr e=>rw [h4] at h;simp at h
  |inl q=>
   obtain⟨zs,r4⟩:=q;rw [h4] at h;simp only [Sum.inl.injEq,Prod.mk.injEq] at h;obtain⟨rfl,rfl⟩:=h;refine⟨r3,?_,?_⟩
   ·rw [List.take_append_of_le_length V,eG V]
   ·rw [List.drop_append_of_le_length V,List.drop_of_length_le V];simpa using h4
theorem getD_take {xs:List Int} {i n:Nat} (h:i<n):(xs.take n).getD i 0=xs.getD i 0:=by
 rw [List.getD_eq_getElem?_getD,List.getD_eq_getElem?_getD,List.getElem?_take_of_lt h]
theorem BF.fails {l r:List UInt8} {xs:List Int} {want:Int} (h:BF l xs r want) (hlt:(xs.length:Int)<want) (he:(gU r).2.2≠0) (aX:Int):readBody aX l=(ms0,(gU r).2.2):=by
 have N:=FU h.got;rw [aV he] at N;by_cases h3:xs.length<3
 ·have Y:mG 3 l=.inr (gU r).2.2:=by
   rw [show 3=(xs.length+1)+(2 - xs.length) by omega,BA,N];rfl
  unfold readBody;rw [Y]
 ·obtain⟨m0,m4,hw⟩:=h.more V
  obtain⟨r3,e3,ej⟩:=Nb h.got (j:=xs.length - 3) V;unfold readBody;rw [e3];simp only [getD_take (xs:=xs) (i:=2) (n:=3) V,getD_take (xs:=xs) (i:=1) (n:=3) V,getD_take (xs:=xs) (i:=0) (n:=3) V];rw [aV V];have h5:mG (2*(xs.getD 2 0).toNat) r3=.inr (gU r).2.2:=by
   have h6:mG (xs.drop 3).length r3=.inl (xs.drop 3,r):=by rw [List.length_drop];exact ej
   have h7:=FU h6;rw [aV he] at h7;rw [show 2*(xs.getD 2 0).toNat=((xs.drop 3).length+1)+(2*(xs.getD 2 0).toNat - ((xs.drop 3).length+1)) by rw [List.length_drop];omega,BA,h7];rfl
  rw [h5]
theorem BF.five {l r:List UInt8} {xs:List Int} {want:Int} (h:BF l xs r want) (Y:xs.length=2) (he:(gU r).2.2=0) (hr:(gU r).1<0∨4<(gU r).1) (aX:Int):readBody aX l=(ms0,5):=by
 have N:=FU h.got;rw [bC he,Y] at N;unfold readBody;rw [N];have:(xs++ [(gU r).1]).getD 2 0=(gU r).1:=by
  rw [List.getD_eq_getElem?_getD,List.getElem?_append_right V,Y];rfl
 simp only [this];rw [bC hr]
theorem BF.next {l r:List UInt8} {xs:List Int} {want:Int} (h:BF l xs r want) (hlt:(xs.length:Int)<want) (he:(gU r).2.2=0) (hr:xs.length=2->0<=(gU r).1/\(gU r).1<=4):
  BF l (xs++ [(gU r).1]) (r.drop (gU r).2.1.toNat) (if xs.length=2 then 3+2*(gU r).1 else want):=by
 have N:=FU h.got;rw [bC he] at N;have hl:(xs++ [(gU r).1]).length=xs.length+1:=by simp
 have hg:∀h3:3<=xs.length,(xs++ [(gU r).1]).getD 2 0=xs.getD 2 0:=fun h3=>by
  rw [List.getD_eq_getElem?_getD,List.getElem?_append_left V,List.getD_eq_getElem?_getD]
 refine⟨by rw [hl];exact N,fun h3=>?_,fun h3=>?_,?_⟩
 ·rw [hl] at h3
  rw [aV V];exact h.few V
 ·rw [hl] at h3
  by_cases Y:xs.length=2
  ·have:(xs++ [(gU r).1]).getD 2 0=(gU r).1:=by
    rw [List.getD_eq_getElem?_getD,List.getElem?_append_right V,Y];rfl
   rw [this,bC Y];exact⟨(hr Y).1,(hr Y).2,rfl⟩
  ·rw [hg V,aV Y]
   exact h.more V
 ·rw [hl]
  split
  ·have:=hr (by assumption);omega
  ·omega
theorem BF.all {l r:List UInt8} {xs:List Int} {want:Int} (h:BF l xs r want) (hle:want<=(xs.length:Int)) (aX:Int):
  readBody aX l=if r≠ [] then(ms0,2) else
   if cZ ⟨aX,xs.getD 0 0,xs.getD 1 0,pairs (xs.getD 1 0) (xs.drop 3)⟩=0 then(⟨aX,xs.getD 0 0,xs.getD 1 0,pairs (xs.getD 1 0) (xs.drop 3)⟩,0)
   else(ms0,cZ ⟨aX,xs.getD 0 0,xs.getD 1 0,pairs (xs.getD 1 0) (xs.drop 3)⟩):=by
 have h3:3<=xs.length:=by
  by_cases h3:xs.length<3
  ·have:=h.few h3;omega
  ·omega
 obtain⟨m0,m4,hw⟩:=h.more h3;have hl:=h.le;obtain⟨r3,e3,ej⟩:=Nb h.got (j:=xs.length - 3) V;unfold readBody;rw [e3];simp only [getD_take (xs:=xs) (i:=2) (n:=3) V,getD_take (xs:=xs) (i:=1) (n:=3) V,getD_take (xs:=xs) (i:=0) (n:=3) V];rw [aV V,show 2*(xs.getD 2 0).toNat=xs.length - 3 by omega,ej]
end Go.Proofs.YtocnmkefmgmkbaaGreat
namespace Go.Proofs.YtocnmkefmgmkbaaGreat
open Go.RowKit
def lenOf:Value->Nat
 | .slice _ n _=>n
 |_=>0
theorem BF.bound {l r:List UInt8} {xs:List Int} {want:Int} (h:BF l xs r want):3<=want/\want<=11:=by
 by_cases h3:xs.length<3
 ·have:=h.few h3;omega
 ·have:=h.more V;omega
theorem BF.cR {l r:List UInt8} {xs:List Int} {want:Int} (h:BF l xs r want) (hw:want<=(xs.length:Int)):(∃n,xs.length=3+2*n)/\(∀j,3+2*j<xs.length->3+2*j+1<xs.length):=by
 have h3:3<=xs.length:=by have:=h.bound;omega
 obtain⟨m0,m4,rH⟩:=h.more h3;have hl:=h.le;exact⟨⟨(xs.getD 2 0).toNat,V⟩,fun j hj=>V⟩
theorem FV {w w':World} {B:Nat} {a:Addr} {v:Value} (h:w.cell? a=some v) (hg:w.grownBy w' (some B)) (hne:a.block≠B):w'.cell? a=some v:=by
 rw [fM hg (eH w a h) hne];exact h
theorem FW {xs:List Int} {i:Nat} (h:i<xs.length):xs.getD i 0=xs[i]:=by
 rw [List.getD_eq_getElem?_getD,dM h];rfl
theorem bK.Rq {c:CM} {w:World} {base e g cap:Nat} {xs:List Int} (h:bK Ty.int c w base e (U (some ⟨g,0,none⟩) xs.length cap) xs) {i:Nat} (hi:i<xs.length):w.cell? ⟨g,i,none⟩=some (J (xs.getD i 0)):=by
 obtain⟨g',cs,he,⟨rfl,-⟩,hA⟩:=h.get ε i hi;obtain rfl:g=g':=by simpa using he
 have:=hA 0 _ rfl;rw [FW hi];simpa [Ty.int] using this
theorem bK.Xk {c:CM} {w:World} {base e:Nat} {v:Value} {xs:List Int} (h:bK Ty.int c w base e v xs) (i:Nat):I64 (xs.getD i 0):=by
 by_cases hi:i<xs.length
 ·obtain⟨css,-,Y,h3⟩:=h
  have:=(h3 i css[i] xs[i] (dM V) (dM hi)).2;rw [FW hi];exact this
 ·rw [List.getD_eq_getElem?_getD,List.getElem?_eq_none V];exact gZ
theorem bK.GJ {c:CM} {w:World} {base e:Nat} {v:Value} {xs:List Int} (h:bK Ty.int c w base e v xs):∀x∈xs,I64 x:=fun x Z=>by
 obtain⟨i,hi,rfl⟩:=List.mem_iff_getElem.1 Z;have:=h.Xk i;rw [FW hi] at this;exact this
theorem GT {c:CM} {w:World} {base e cap:Nat} {a:Option Addr} {xs:List Int} (h:bK Ty.int c w base e (U a xs.length cap) xs) (h3:3<=xs.length):∃g,a=some ⟨g,0,none⟩/\w.cell? ⟨g,0,none⟩=some (J (xs.getD 0 0))/\w.cell? ⟨g,1,none⟩=some (J (xs.getD 1 0))/\g<w.heap.size:=by
 obtain⟨g,cs,rfl,-,-⟩:=h.get ε 0 V;exact⟨g,rfl,h.Rq V,h.Rq V,(h.lt g rfl).2⟩
theorem pC {c:CM} {w:World} {base e g cap:Nat} {xs:List Int} (h:bK Ty.int c w base e (U (some ⟨g,0,none⟩) xs.length cap) xs) {i:Nat} (hi:i+1<xs.length):w.cell? ⟨g,i,none⟩=some (J (xs.getD i 0))/\w.cell? ⟨g,i+1,none⟩=some (J (xs.getD (i+1) 0)):=⟨h.Rq V,h.Rq hi⟩
theorem Xl (h:Int) {xs:List Int} {k:Nat} (hl:3+2*k+1<xs.length):pairs h ((xs.drop 3).take (2*(k+1)))=pairs h ((xs.drop 3).take (2*k))++ [⟨h,xs.getD (3+2*k) 0,xs.getD (3+2*k+1) 0⟩]:=by
 have e1:(xs.drop 3).length=xs.length - 3:=List.length_drop;have e2:(xs.drop 3).take (2*(k+1))=(xs.drop 3).take (2*k)++ [xs.getD (3+2*k) 0,xs.getD (3+2*k+1) 0]:=by
  rw [show 2*(k+1)=2*k+1+1 by omega,List.take_succ_eq_append_getElem V,List.take_succ_eq_append_getElem V,List.getElem_drop,List.getElem_drop,FW V,FW V,List.append_assoc];rfl
 rw [e2,Em h k (by rw [List.length_take];omega)]
theorem Jz (h:Int) {xs:List Int} {k:Nat} (hk:3+2*k<=xs.length):(pairs h ((xs.drop 3).take (2*k))).length=k:=
 (Eh k (by rw [List.length_take,List.length_drop];omega)).2
theorem Nc {h:Int} (hh:I64 h):∀{l:List Int},(∀x∈l,I64 x)->AY (pairs h l)
 | [],_=>fun p hp=>by simp [pairs] at hp
 | [x],_=>fun p hp=>by simp [pairs] at hp
 |x::y::l,hl=>fun p hp=>by
  rw [pairs] at hp;rcases List.mem_cons.1 hp with rfl|hp
  ·exact⟨hh,hl _ σ,hl _ σ⟩
  ·exact Nc hh (fun z hz=>hl z (by simp [hz])) p hp
theorem Vg:(Tryz.prog.info? 3).map (·.size)=some 1:=by kernel_rfl
theorem info_parts:(Tryz.prog.info? 23).map (·.size)=some 1:=by kernel_rfl
structure PSt (w wr:World) (B6 wb:Nat) (z:Nat) (d h:Int) (vp:Value) (g8 c8:Nat) (ps:List Pt) (xs:List Int):Prop where
 res:wr.heap[w.heap.size]? =some (.cells #[J 0,J 0,J 0,()] 85 (0,0))
 msg:wr.heap[B6]? =some (.cells #[J z,J d,J h,vp] 85 (0,0))
 num:bK Ty.int (fun _=>none) wr wb 3 (U (some ⟨g8,0,none⟩) xs.length c8) xs
 own:wr.ownsRow (B6+1) 111 3 vp ps.length (ps.flatMap Pt.cells)
 grow:aK w wr
 lo:w.heap.size<B6
 wbs:B6<wb
 QK:∀q,vp.ownBlock=some q->q≠B6/\q≠g8
theorem PSt.still {w wr y z9:World} {B6 wb z:Nat} {d h:Int} {vp:Value} {g8 c8:Nat} {ps:List Pt} {xs:List Int} (p:PSt w wr B6 wb z d h vp g8 c8 ps xs) (_hG:aK wr y) (hg:y.grownBy z9 vp.ownBlock) {u v x t:Value} {i j:Nat}
  (hS:y.cell? ⟨B6,3,none⟩=some u/\y.cell? ⟨B6,2,none⟩=some v/\y.cell? ⟨g8,i,none⟩=some x/\y.cell? ⟨g8,j,none⟩=some t):
  z9.cell? ⟨B6,3,none⟩=some u/\z9.cell? ⟨B6,2,none⟩=some v/\z9.cell? ⟨g8,i,none⟩=some x/\z9.cell? ⟨g8,j,none⟩=some t:=by
 have k:∀(a:Addr) (v:Value),some a.block≠vp.ownBlock->y.cell? a=some v->z9.cell? a=some v:=fun a v hne e=>by
  rw [World.cell?_of_block (hg.block a.block (eH y a e) hne)];exact e
 have n6:some B6≠vp.ownBlock:=fun e=>(p.QK _ e.symm).1 rfl;have n8:some g8≠vp.ownBlock:=fun e=>(p.QK _ e.symm).2 rfl;exact⟨k _ _ n6 hS.1,k _ _ n6 hS.2.1,k _ _ n8 hS.2.2.1,k _ _ n8 hS.2.2.2⟩
theorem PSt.part {w wr y z9 zz:World} {B6 wb z:Nat} {d h:Int} {vp:Value} {g8 c8:Nat} {ps ps':List Pt} {xs:List Int} {a':Option Addr} {n c':Nat} (p:PSt w wr B6 wb z d h vp g8 c8 ps xs) (hG:aK wr y)
  (ho:z9.ownsRow (B6+1) 111 3 (U a' n c') ps'.length (ps'.flatMap Pt.cells)) (hg:y.grownBy z9 vp.ownBlock)
  (hb:(Value.slice a' n c').ownBlock=vp.ownBlock∨∃g,(Value.slice a' n c').ownBlock=some g/\y.heap.size<=g)
  (hz:zz.heap[B6]? =some (.cells #[J z,J d,J h,U a' n c'] 85 (0,0))) (hgz:z9.grownBy zz (some B6)):PSt w zz B6 wb z d h (U a' n c') g8 c8 ps' xs:=by
 have z8:=p.num.lt g8 rfl;have zg:=hG.size;have z9s:=hg.size;have hlo:=p.lo;have hwb:=p.wbs;have n8:some g8≠vp.ownBlock:=fun e=>(p.QK _ e.symm).2 rfl;have nR:some w.heap.size≠vp.ownBlock:=fun e=>by have:=(p.own.lt _ e.symm).1;omega
 have hdis:∀q,(Value.slice a' n c').ownBlock=some q->q≠B6/\q≠g8:=fun q O=>by
  rcases hb with e|⟨g,e,hge⟩
  ·exact p.QK q (e.symm.trans O)
  ·rw [e] at O
   obtain rfl:=bI O;constructor<;>omega
 refine⟨bJ (bJ (aF p.res hG) hg nR) hgz iP,hz,?_,?_,?_,hlo,hwb,hdis⟩
 ·refine((p.num.grow hG).kept hg (.inr ?_)).kept hgz (.inr ?_)
  ·simpa [Value.ownBlock] using n8
  ·simp [Value.ownBlock];omega
 ·refine ho.kept hgz ?_
  cases e:(Value.slice a' n c').ownBlock with
  |none=>exact .inl rfl
  |some q=>exact .inr (by have:=(hdis q e).1;intro e2;exact this (bI e2))
 ·exact((p.grow.trans hG).grown hg (fun q O=>by have:=(p.own.lt q O).1;omega)).grown hgz (fun q O=>by simp at O;omega)
theorem wu {n:Int} (w:World):Calls Tryz.prog 92 #[J n] w fun e w'=>e=.returned (.tuple #[.agg #[J 0,J 0,J 0,()],J n])/\aK w w':=by
 have R2:=I (bn w (.cells #[J 0,J 0,J 0,()] 85));have G1:=I ((aG w).alloc (.cells #[J 0,J 0,J 0,()] 85));go_enter Tryz.func92,Tryz.ntmps92;go_wp2_with (first|(refine aQ rfl (.tmp 2) (.tmp 4) rfl rfl rfl R2.o jo rfl rfl ?_))
 intro w7 r7 g7;obtain⟨p0,p1,p2,p3⟩:=aT r7;go_wp2;refine dw (v:=.tuple #[.agg #[J 0,J 0,J 0,()],J n]) (by simp [results,Tryz.results92,go_sem,p0,p1,p2,p3]) rfl ?_;exact⟨rfl,G1.o.grown g7 (fun q O=>by simp at O;omega)⟩
theorem PW {v:Value} {b:List UInt8} (w:World) (hv:Ya w.cell? v b):
  Calls Tryz.prog 52 #[v] w fun e w'=>∃v',e=.returned (.tuple #[v',J (readB b).2])/\Of Ty.ms (ov (fun _=>none) w w') v' (readB b).1/\aK w w':=by
 have HV:=I hv;obtain⟨a,cap,rfl,N,Y,-,hel⟩:=hv;unfold maxLen at Y;by_cases hl3:b.length<3
 ·have HE:Hid (readB b=(ms0,8)):=by show readB b=_;unfold readB;rw [bC hl3]
  have R2:=I (bn w (.cells #[J 0,J 0,J 0,()] 85));have G1:=I ((aG w).alloc (.cells #[J 0,J 0,J 0,()] 85));clear hel;go_enter Tryz.func52,Tryz.ntmps52;go_wp2_with fail
  refine(wu _).mono ?_;rintro e w1 ⟨rfl,hb⟩;have R3:=I (aF R2.o hb);have G3:=I (G1.o.trans hb);clear hb;go_wp2_with (first|(refine aQ rfl (.tmp 2) (.tmp 20) rfl rfl rfl R3.o jo rfl rfl ?_))
  intro w7 r7 g7;obtain⟨p0,p1,p2,p3⟩:=aT r7;go_wp2;refine dw (v:=.tuple #[.agg #[J 0,J 0,J 0,()],J 8]) (by simp [results,Tryz.results52,go_sem,p0,p1,p2,p3]) rfl ?_;rw [HE.o];exact⟨_,rfl,oI _,G3.o.grown g7 (fun q O=>by simp at O;omega)⟩
 have YE:=I (fun(W:World) (hW:aK w W)=>YA W ((HV.o.take' (b.length - 2) V).mono hW.sub));obtain⟨bb,o,rfl,c0⟩:=byteAt hel 0 V;obtain⟨bb',o',he,cx⟩:=byteAt hel (b.length - 2) V;obtain⟨rfl,rfl⟩:bb=bb'/\o=o':=by simpa using he
 obtain⟨bb',o',he',cy⟩:=byteAt hel (b.length - 1) V;obtain⟨rfl,rfl⟩:bb=bb'/\o=o':=by simpa using he'
 clear he he' hel;obtain⟨e,hle⟩:∃e,b.length=e+2:=⟨b.length - 2,V⟩;obtain⟨x,Z⟩:∃x,x=(b[b.length - 2]' V).toNat:=⟨_,rfl⟩;obtain⟨y,hy⟩:∃x,x=(b[b.length - 1]' V).toNat:=⟨_,rfl⟩;obtain⟨z,hz⟩:∃x,x=(b[0]' V).toNat:=⟨_,rfl⟩;obtain⟨s,hs⟩:=χ (xX (b.take (b.length - 2)));have pV:x<256:=by rw [Z];exact UInt8.toNat_lt _
 have hy2:y<256:=by rw [hy];exact UInt8.toNat_lt _
 have hz2:z<256:=by rw [hz];exact UInt8.toNat_lt _
 have hs1:s<65521:=by rw [hs];exact Fq _
 have hok:Ak b=decide (s=256*x+y):=by
  refine Uu (e:=e) hle ?_ ?_ pV hy2 (by rw [hs];congr 2;omega)
  ·rw [Z];simp [hle]
  ·rw [hy];simp [hle]
 have HZ:Hid (((b.getD 0 0).toNat:Nat)=z):=I (by rw [hz,List.getD_eq_getElem?_getD,dM V];rfl);rw [<-Z] at cx;rw [<-hy] at cy;rw [<-hz] at c0;rw [<-hs] at YE;rw [show b.length - 2=e by omega] at cx YE;rw [show b.length - 1=e+1 by omega] at cy;have YF:=I hl3;have HSL:=I (HV.o.take' (b.length - 2) V);rw [show b.length - 2=e by omega] at HSL;have L5:Hid (b.take (b.length - 2)=b.take e):=I (by congr 1;omega);have TC:Hid ((b.take e).length=e):=I (by rw [List.length_take];omega);rw [hle] at hl3 N ⊢;clear Z hy hz hs hle;have uM:=I hok;clear hok;have Hw:=I c0;have HCX:=I cx;have HCY:=I cy;have HSV:=I (fun(W:World) (hW:aK w W)=>(show W.cell? ⟨bb,o+e,none⟩=some (.int .u8 x)/\W.cell? ⟨bb,o+(e+1),none⟩=some (.int .u8 y) from⟨hW.sub _ _ HCX.o,hW.sub _ _ HCY.o⟩));obtain⟨wa,fZ⟩:=χ (w.alloc (.cells #[J 0,J 0,J 0,()] 85));have R2:Hid (wa.heap[w.heap.size]? =some (.cells #[J 0,J 0,J 0,()] 85 (0,0))):=I (by rw [fZ];exact bn _ _);have G1:Hid (aK w wa):=I (by rw [fZ];exact(aG w).alloc _);have HS:=I (fun(W:World) (hW:aK wa W)=>HSV.o W (G1.o.trans hW));have Z0:=I (fun(W:World) (hW:aK wa W)=>YE.o W (G1.o.trans hW));clear c0 cx cy HSV YE;by_cases ht:s=256*x+y
 ·have HOT:=I (show Ak b=true by rw [uM.o];exact decide_eq_true ht)
  have hbx:((s:Int) !=IntKind.i64.wrap (IntKind.i64.wrap (256*IntKind.i64.wrap (x:Int))+(y:Int)))=false:=by rw [IntWalk.i64_in (x:Int) V,IntWalk.i64_in (256*(x:Int)) V,IntWalk.i64_in (256*(x:Int)+(y:Int)) V];rw [bne_eq_false_iff_eq];omega
  have G0:((s:Int) !=IntKind.i64.wrap (IntKind.i64.wrap (256*IntKind.i64.wrap (x:Int))+IntKind.i64.wrap (y:Int)))=false:=by rw [IntWalk.i64_in (x:Int) V,IntWalk.i64_in (y:Int) V,IntWalk.i64_in (256*(x:Int)) V,IntWalk.i64_in (256*(x:Int)+(y:Int)) V];rw [bne_eq_false_iff_eq];omega
  have hbx2:((s:Int) !=256*(x:Int)+(y:Int))=false:=by rw [bne_eq_false_iff_eq];omega
  clear uM ht;have ha1:IntKind.i64.wrap ((e:Int)+1)=(e:Int)+1:=IntWalk.i64_in _ V;have hi1:(e:Int)+1<(e:Int)+2:=by omega
  have hi0:(0:Int)<=(e:Int)+1:=by omega
  have hec:(e:Int)<=(cap:Int):=by omega
  have A2O:(0:Int)<=(e:Int):=by omega
  have A2P:(e:Int)<(e:Int)+2:=by omega
  go_enter Tryz.func52,Tryz.ntmps52;go_upto_region 5 with fail
  rw [<-fZ];clear fZ;go_cut [42] from 43 (fun s42 wc=>s42=.bool false/\aK wa wc)
  case first=>
   go_region_held3 (fun w'=>w'.cell? ⟨bb,o+e,none⟩=some (.int .u8 x)/\w'.cell? ⟨bb,o+(e+1),none⟩=some (.int .u8 y)) (first|assumption|exact HS.o _ Aw) (first|(go_at_call 93;refine(Z0.o _ Aw).mono ?_;rintro e0 w4 ⟨rfl,qW⟩))
   have NN:aK wa w4:=Aw;go_wp2;go_meet
   case rel=>exact⟨by first|rfl|(rw [hbx];done)|(rw [hbx2];done)|(rw [G0];done),NN⟩
  case rest=>
  obtain⟨rfl,hgw⟩:=hcut;have Dl:=I hgw;have c0:=(G1.o.trans hgw).sub _ _ Hw.o;simp only [Nat.add_zero] at c0;have hzw:IntKind.i64.wrap (z:Int)=(z:Int):=IntWalk.i64_in _ V;clear hgw;go_wp2;obtain⟨wb,hwb⟩:=χ (wc.alloc (.cells #[J z,J 0,J 0,()] 85));obtain⟨B6,J7⟩:=χ wc.heap.size;have hrow:wb.heap[B6]? =some (.cells #[J z,J 0,J 0,()] 85 (0,0)):=by rw [hwb,J7];exact bn _ _
  have hgw:aK wa wb:=by rw [hwb];exact Dl.o.alloc _
  have hlo:wa.heap.size<=B6:=by rw [J7];exact Dl.o.size
  rw [<-hwb,<-J7];clear hwb J7 c0;have RM:=I hrow;have GB:=I (G1.o.trans hgw);have R2B:=I (aF R2.o hgw);have Gt:Hid (w.heap.size<B6):=I (τ (γ R2.o));have Yg:Hid (B6<wb.heap.size):=I (γ hrow);have OA:Hid (readB b=readBody z ((b.take e).drop 1)):=I (by unfold readB;rw [aV YF.o,bC HOT.o,HZ.o,L5.o]);have Et:Hid (((b.take e).drop 1).length=e - 1):=I (by rw [List.length_drop,TC.o]);have HSB:=I (HSL.o.drop 1 V);have HZI:Hid (I64 (z:Int)):=I (ku V V);have hcp:e+1<=cap - 1:=by omega
  have hcm:cap<=maxLen:=by have h9:=HV.o;obtain⟨a',cap',wG,-,h8,-⟩:=h9;simp only [Value.slice.injEq] at wG;omega
  clear hrow hgw hlo R2 G1 Dl HSL Z0 HS HOT TC L5 HZ YF Hw HCX HCY HV hzw hbx hbx2 G0 ha1 hi1 hi0 hl3 pV hy2 hs1;generalize (b.take e).drop 1=L at*;go_loopw [7,8,9] (fun s7 s8 s9 wr=>∃(xs:List Int) (r:List UInt8) (want:Int) (q cr:Nat),BF L xs r want/\s9=J want/\s7=U (some ⟨bb,q,none⟩) r.length cr/\r.length+2<=cr/\cr<=maxLen/\Ya w.cell? (U (some ⟨bb,q,none⟩) r.length cr) r/\bK Ty.int (fun _=>none) wr wb.heap.size 3 s8 xs/\aK wb wr) (fun _ s8 _ _=>11 - lenOf s8)
  case atStart=>
   refine⟨[],L,3,o+1,cap - 1,BF.start L,rfl,by rw [Et.o],by rw [Et.o];omega,V,?_,bK.nil _ _ _ _ _,aG _⟩;have h9:=HSB.o;rw [Et.o];simpa [show Ty.byte.size=1 from rfl] using h9
  case round=>
   obtain⟨xs,r,want,q,cr,hrd,rfl,rfl,hcr,hcm2,hbr,bU,hb⟩:=hrel;obtain⟨wx,rfl⟩:=χ wr;obtain⟨a8,c8,rfl⟩:=bU.form;obtain⟨Pn,A3D⟩:=hrd.bound;have dX:=I bU;have HB:=I hb;have PV:=I hbr;have Jj:=I hrd;have GX:=I (GB.o.trans hb);have YH:=I (aF R2B.o hb);have SL:=I hrd.le;clear bU hb hbr hrd;by_cases hlt:(xs.length:Int)<want
   ·have HG:=I (DM wx (PV.o.mono GX.o.sub))
    obtain⟨g0,g1,g2,g3,g4,g5⟩:=En r;by_cases he:(gU r).2.2=0
    ·obtain⟨k,hk⟩:∃k:Nat,(gU r).2.1=k:=⟨(gU r).2.1.toNat,V⟩
     have og:=I (fun h=>Jj.o.next hlt he h);have HFV:Hid (xs.length=2->(gU r).1<0∨4<(gU r).1->readB b=(ms0,5)):=fun h9 h8=>by rw [OA.o];exact Jj.o.five h9 he h8 _
     rw [hk] at HG og;rw [he] at HG;simp only [Int.toNat_natCast] at og;have hkl:k<=r.length:=by omega
     have Vh:=I (PV.o.drop k hkl);have Ou:Hid ((r.drop k).length=r.length - k):=I List.length_drop;have NU:Hid (I64 (gU r).1):=I (ku V V);clear hk he g2 g3 g4 g5;generalize (gU r).1=x at*;have hkc:k<=cr:=by omega
     unfold maxLen at hcm2;have hxl:xs.length<12:=by have:=SL.o;omega
     go_wp2_with fail
     refine HG.o.mono ?_;rintro e9 w3 ⟨rfl,fB⟩;have n_:=I (dX.o.grow fB);have G3:=I (GX.o.trans fB);have GB3:=I (HB.o.trans fB);have R3:=I (aF YH.o fB);clear fB;go_wp2_with (first|(at_builtin;refine cO (c:=fun _=>none) (base:=wb.heap.size) (l:=xs) (m:=[x]) jL rfl jX ε rfl (.tmp 72) (.tmp 74) rfl rfl ?own rfl (Src.dU (T:=Ty.int) (x:=x) (cs:=#[J x]) ⟨rfl,NU.o⟩ _ _ ?d1) ?d2 ?d3 ?_))
     case own=>exact n_.o.grow ((aG _).alloc _)
     case d1=>simp
     case d2=>simp;omega
     case d3=>have:=GB3.o.size;simp;omega
     intro a9 c9 w9 gX fV iE;have jE:=I gX;have SH:=I (dI (w0:=wb) (GB3.o.alloc _) fV (fun q O=>(n_.o.lt q O).1));have G9:=I (GB.o.trans SH.o);have R9:=I (aF R2B.o SH.o);clear gX fV iE;have hll:xs.length+ [x].length=xs.length+1:=by simp
     by_cases Y:xs.length=2
     ·have A2Q:((xs.length:Int)+1==3)=true:=by rw [Y];rfl
      have A2R:xs.length+1=3:=by omega
      by_cases J6:x<0
      ·have HE:=I (HFV.o Y (.inl J6))
       go_wp2_with fail
       refine(wu _).mono ?_;rintro e8 w8 ⟨rfl,lD⟩;have R8:=I (aF R9.o lD);have G8:=I (G9.o.trans lD);clear lD;go_wp2_with (first|(refine aQ rfl (.tmp 2) (.tmp 90) rfl rfl rfl R8.o jo rfl rfl ?_))
       intro w7 r7 g7;obtain⟨p0,p1,p2,p3⟩:=aT r7;go_wp2;refine dw (v:=.tuple #[.agg #[J 0,J 0,J 0,()],J 5]) (by simp [results,Tryz.results52,go_sem,p0,p1,p2,p3]) rfl ?_;rw [HE.o];exact⟨_,rfl,oI _,G8.o.grown g7 (fun q O=>by simp at O;omega)⟩
      by_cases FX:4<x
      ·have HE:=I (HFV.o Y (.inr FX))
       go_wp2_with fail
       refine(wu _).mono ?_;rintro e8 w8 ⟨rfl,lD⟩;have R8:=I (aF R9.o lD);have G8:=I (G9.o.trans lD);clear lD;go_wp2_with (first|(refine aQ rfl (.tmp 2) (.tmp 90) rfl rfl rfl R8.o jo rfl rfl ?_))
       intro w7 r7 g7;obtain⟨p0,p1,p2,p3⟩:=aT r7;go_wp2;refine dw (v:=.tuple #[.agg #[J 0,J 0,J 0,()],J 5]) (by simp [results,Tryz.results52,go_sem,p0,p1,p2,p3]) rfl ?_;rw [HE.o];exact⟨_,rfl,oI _,G8.o.grown g7 (fun q O=>by simp at O;omega)⟩
      obtain⟨xn,rfl⟩:∃xn:Nat,x=xn:=⟨x.toNat,V⟩;have HN:=I (og.o (fun _=>⟨V,V⟩));rw [bC Y] at HN;have hxn:xn<=4:=by omega
      go_wp2;go_roundw
      case rel=>
       refine⟨xs++ [(xn:Int)],r.drop k,3+2*(xn:Int),q+k,cr - k,HN.o,by go_num,by rw [Ou.o],by rw [Ou.o];omega,by unfold maxLen;omega,?_,jE.o,SH.o⟩;have h9:=Vh.o;rw [Ou.o];simpa [show Ty.byte.size=1 from rfl] using h9
      case measure=>simp [lenOf];omega
     ·have A2Q:((xs.length:Int)+1==3)=false:=by rw [beq_eq_false_iff_ne];omega
      have A2R:¬xs.length+1=3:=by omega
      have HN:=I (og.o (fun h=>absurd h Y));rw [aV Y] at HN;go_wp2;go_roundw
      case rel=>
       refine⟨xs++ [x],r.drop k,want,q+k,cr - k,HN.o,rfl,by rw [Ou.o],by rw [Ou.o];omega,by unfold maxLen;omega,?_,jE.o,SH.o⟩;have h9:=Vh.o;rw [Ou.o];simpa [show Ty.byte.size=1 from rfl] using h9
      case measure=>simp [lenOf];omega
    ·have HE:Hid (readB b=(ms0,(gU r).2.2)):=I (by rw [OA.o];exact Jj.o.fails hlt he _)
     have hbe:((gU r).2.2 !=0)=true:=by simp [he]
     clear he g0 g1 g2 g3 g4 g5;generalize (gU r).2.2=er at*;generalize (gU r).2.1=ek at*;generalize (gU r).1=ex at*;go_wp2_with fail
     refine HG.o.mono ?_;rintro e9 w3 ⟨rfl,fB⟩;have G3:=I (GX.o.trans fB);have R3:=I (aF YH.o fB);clear fB;go_wp2_with fail
     refine(wu _).mono ?_;rintro e8 w8 ⟨rfl,lD⟩;have R8:=I (aF R3.o lD);have G8:=I (G3.o.trans lD);clear lD;go_wp2_with (first|(refine aQ rfl (.tmp 2) (.tmp 70) rfl rfl rfl R8.o jo rfl rfl ?_))
     intro w7 r7 g7;obtain⟨p0,p1,p2,p3⟩:=aT r7;go_wp2;refine dw (v:=.tuple #[.agg #[J 0,J 0,J 0,()],J er]) (by simp [results,Tryz.results52,go_sem,p0,p1,p2,p3]) rfl ?_;rw [HE.o];exact⟨_,rfl,oI _,G8.o.grown g7 (fun q O=>by simp at O;omega)⟩
   ·have MJ:=I (Jj.o.all V (z:Int))
    by_cases hr:r=[]
    ·have hrl:¬(0:Int)<(r.length:Int):=by rw [hr];simp
     have pU:=I (Jj.o.cR V);rw [aV (by simp [hr])] at MJ;have FY:3<=xs.length:=by omega
     have A3E:xs.length<=11:=by have:=SL.o;omega
     obtain⟨g8,rfl,n0,n1,AK⟩:=GT dX.o FY;have T6:=I (aF RM.o HB.o);obtain⟨m0,m1,m2,m3⟩:=aT T6.o;have z6:B6<wx.heap.size:=(γ T6.o);have z8:wb.heap.size<=g8:=(dX.o.lt g8 rfl).1;have HS:Hid (∀W,aK wx W->W.cell? ⟨g8,0,none⟩=some (J (xs.getD 0 0))/\W.cell? ⟨g8,1,none⟩=some (J (xs.getD 1 0))):=fun W hW=>⟨hW.sub _ _ n0,hW.sub _ _ n1⟩;have hi0:(0:Int)<(xs.length:Int):=by omega
     have hi1:(1:Int)<(xs.length:Int):=by omega
     have hn0:0<xs.length:=by omega
     have SE:1<xs.length:=by omega
     have A0a:=I (dX.o.Xk 1);have A1W:=I (dX.o.Xk 0);clear hr m0 m1 m2 m3 n0 n1 AK;generalize xs.getD 0 0=dd at*;generalize xs.getD 1 0=hh at*;go_upto_region 23 with fail
     refine dH (fun w'=>w'.cell? ⟨g8,0,none⟩=some (J dd)/\w'.cell? ⟨g8,1,none⟩=some (J hh)) 9 κ ?_;obtain⟨wd,hWd⟩:=χ wx.drew;rw [<-hWd];have GD:aK wx wd:=by rw [hWd];exact(aG _).drew
     have zD:wx.heap.size=wd.heap.size:=by rw [hWd];rfl
     clear hWd zD;refine qJ [0,1,2,3,4,5] 12 κ (fun _ _ _ _ _ h=>h) (HS.o _ GD) ?_;repeat (refine jY ?_;try simp only [bT])
     refine qK ?_;refine bO 6 κ rfl ?_;intro K M;try simp only [dD]
     go_simp;refine ψ M (fun _=>HS.o _ GD) ?_;try simp only [bT]
     refine bO 7 κ rfl ?_;intro K M;refine aY rfl ?_;try simp only [dD]
     refine dF (.tmp 108) (.tmp 104) (v:=J dd) (new:=#[J z,J dd,J 0,()]) rfl rfl ρ ρ (aF T6.o GD) Vg σ ρ ρ ?_;intro z7 rz7 gz7;have NO:=I (And.intro rz7 gz7);clear rz7 gz7;refine ψ M (fun _=>⟨FV (HS.o _ GD).1 (NO.o.2) (by have:=Yg.o;show g8≠B6;omega),FV (HS.o _ GD).2 (NO.o.2) (by have:=Yg.o;show g8≠B6;omega)⟩) ?_;try simp only [bT]
     refine bO 8 κ rfl ?_;intro K M;try simp only [dD]
     go_simp;refine ψ M (fun _=>⟨FV (HS.o _ GD).1 (NO.o.2) (by have:=Yg.o;show g8≠B6;omega),FV (HS.o _ GD).2 (NO.o.2) (by have:=Yg.o;show g8≠B6;omega)⟩) ?_;try simp only [bT]
     refine bO 9 κ rfl ?_;intro K M;refine aY rfl ?_;try simp only [dD]
     refine dF (.tmp 109) (.tmp 107) (v:=J hh) (new:=#[J z,J dd,J hh,()]) rfl rfl ρ ρ NO.o.1 Vg σ ρ ρ ?_;intro z9 rz9 gz9;have Hz9:=I (And.intro rz9 gz9);clear rz9 gz9;refine ψ M (fun h=>absurd rfl h) ?_;try simp only [bT]
     refine bW κ ?_;have vZ:=I (bD (aO GD (some B6)) (bD NO.o.2 Hz9.o.2));have RM9:=I Hz9.o.1;have J_:=I (bJ (aF YH.o GD) (bD NO.o.2 Hz9.o.2) (by have:=Gt.o;intro e9;have:=bI e9;omega));have GX9:=I (GX.o.grown vZ.o (fun q O=>by have:=Gt.o;simp at O;omega));have jE:=I (dX.o.kept vZ.o (.inr (by have:=Yg.o;simp [Value.ownBlock];omega)));obtain⟨wy,rfl⟩:=χ z9;clear NO Hz9 vZ GD HS T6 YH GX dX HB;go_wp2;go_loopw [13] (fun i wr=>∃(i0 k:Nat) (vp:Value),i0=3+2*k/\i0<=xs.length/\i=J (i0:Nat)/\PSt w wr B6 wb.heap.size z dd hh vp g8 c8 (pairs hh ((xs.drop 3).take (2*k))) xs) (fun i _=>xs.length - (intOf i).toNat)
     case atStart=>exact⟨3,0,(),rfl,V,rfl,⟨J_.o,RM9.o,jE.o,World.ownsRow_nil _ _ _ _,GX9.o,Gt.o,Yg.o,fun q O=>by simp [Value.ownBlock] at O⟩⟩
     case round=>
      obtain⟨i0,k,vp,hi0,L9,rfl,hp⟩:=hrel;have HI0:=I hi0;obtain⟨wv,rfl⟩:=χ wr;obtain⟨ap,cp,rfl⟩:=dG hp.own;have HP:=I hp;clear hp;by_cases hlt2:i0<xs.length
      ·have hlt3:i0+1<xs.length:=by have:=pU.o.2 k V;omega
       have HPN:=I (Xl hh (xs:=xs) (k:=k) V);rw [<-hi0] at HPN;have D3:=I (Jz hh (xs:=xs) (k:=k) V);obtain⟨n0,n1⟩:=pC HP.o.num hlt3;have HS:Hid (∀W,aK wv W->W.cell? ⟨B6,3,none⟩=some (U ap (pairs hh ((xs.drop 3).take (2*k))).length cp)/\W.cell? ⟨B6,2,none⟩=some (J hh)/\W.cell? ⟨g8,i0,none⟩=some (J (xs.getD i0 0))/\W.cell? ⟨g8,i0+1,none⟩=some (J (xs.getD (i0+1) 0))):=fun W hW=>by
        obtain⟨-,-,m2,m3⟩:=aT (aF HP.o.msg hW);exact⟨m3,m2,hW.sub _ _ n0,hW.sub _ _ n1⟩
       clear n0 n1;generalize xs.getD i0 0=xa at*;generalize xs.getD (i0+1) 0=xb at*;generalize pairs hh ((xs.drop 3).take (2*k))=ps at*;have hia:IntKind.i64.wrap ((i0:Int)+1)=(i0:Int)+1:=IntWalk.i64_in _ V;have hib:(0:Int)<=(i0:Int)+1:=by omega
       have hic:(i0:Int)+1<(xs.length:Int):=by omega
       have hid:((i0:Int)+1).toNat=i0+1:=by omega
       clear hi0;go_upto_region 27 with fail
       refine dH (fun w'=>w'.cell? ⟨B6,3,none⟩=some (U ap ps.length cp)/\w'.cell? ⟨B6,2,none⟩=some (J hh)/\w'.cell? ⟨g8,i0,none⟩=some (J xa)/\w'.cell? ⟨g8,i0+1,none⟩=some (J xb)) 17 κ ?_;obtain⟨wd,hWd⟩:=χ wv.drew;rw [<-hWd];have GD:aK wv wd:=by rw [hWd];exact(aG _).drew
       have zD:wv.heap.size=wd.heap.size:=by rw [hWd];rfl
       clear hWd zD;refine qJ [0,1,2,3,4,5,6,7,8,9,10,11,12] 20 κ (fun _ _ _ _ _ h=>h) (HS.o _ GD) ?_;repeat (refine jY ?_;try simp only [bT])
       refine qK ?_;refine bO 13 κ rfl ?_;intro K M;try simp only [dD]
       go_simp;refine ψ M (fun _=>HS.o _ GD) ?_;try simp only [bT]
       refine bO 14 κ rfl ?_;intro K M;try simp only [dD]
       go_simp;obtain⟨y9,D4⟩:=χ (wd.alloc (.cells #[J hh,J xa,J xb] 111));have GY:aK wd y9:=by rw [D4];exact(aG _).alloc _
       have RY:y9.heap[wd.heap.size]? =some (.cells #[J hh,J xa,J xb] 111 (0,0)):=by rw [D4];exact bn _ _
       have HY:=I (And.intro (GD.trans GY) RY);rw [<-D4];clear D4 GY RY;refine ψ M (fun _=>HS.o _ HY.o.1) ?_;try simp only [bT]
       refine bO 15 κ rfl ?_;intro K M;refine aY rfl ?_;try simp only [dD]
       refine vH (n:=ps.length) Ky (.tmp 117) (.tmp 130) rfl rfl (kE HP.o.own HY.o.1) (some ⟨wd,0,none⟩) 1 1 [J hh,J xa,J xb] rfl σ rfl (fun ad had j u hu=>?news) (Wn ⟨hh,xa,xb⟩) (by have:=D3.o;have:=HI0.o;unfold maxLen;omega) (by have:=D3.o;have:=HI0.o;omega) (by have:=HY.o.1.size;have:=(γ HP.o.msg);have:=HP.o.wbs;omega) ?_
       case news=>
        obtain rfl:=bI had;have h9:=iI HY.o.2;rw [Addr.add_lit,Nat.zero_add];match j,hu with
        |0,hu=>simp at hu;rw [<-hu];exact h9.1
        |1,hu=>simp at hu;rw [<-hu];exact h9.2.1
        |2,hu=>simp at hu;rw [<-hu];exact h9.2.2
        |j+3,hu=>simp at hu
       intro a9 c9 z9 hA;have HA:=I hA;clear hA;refine ψ M (fun _=>HP.o.still HY.o.1 HA.o.grown (HS.o _ HY.o.1)) ?_;try simp only [bT]
       refine bO 16 κ rfl ?_;intro K M;try simp only [dD]
       go_simp;refine ψ M (fun _=>HP.o.still HY.o.1 HA.o.grown (HS.o _ HY.o.1)) ?_;try simp only [bT]
       refine bO 17 κ rfl ?_;intro K M;refine aY rfl ?_;try simp only [dD]
       refine dF (.tmp 132) (.tmp 131) (v:=U a9 (ps.length+1) c9) (new:=#[J z,J dd,J hh,U a9 (ps.length+1) c9]) rfl rfl ρ ρ (bJ (aF HP.o.msg HY.o.1) HA.o.grown (fun e9=>(HP.o.QK _ e9.symm).1 rfl)) info_parts σ ρ ρ ?_;intro zz rz gz;have HZZ:=I (And.intro rz gz);clear rz gz;refine ψ M (fun h=>absurd rfl h) ?_;try simp only [bT]
       refine bW κ ?_;go_wp2;go_roundw
       case rel=>
        refine⟨i0+2,k+1,U a9 (ps.length+1) c9,by have:=HI0.o;omega,V,by go_num,?_⟩;rw [HPN.o];refine HP.o.part (ps':=ps++ [⟨hh,xa,xb⟩]) HY.o.1 ?_ HA.o.grown HA.o.blk HZZ.o.1 HZZ.o.2;have h9:=HA.o.own;simpa [Pt.cells] using h9
       case measure=>simp [intOf];omega
      ·have PX:=I (show(xs.drop 3).take (2*k)=xs.drop 3 from eG (by rw [List.length_drop];omega))
       have pD:=HP.o;rw [PX.o] at pD;have pE:=I pD;have D3:=I (Jz hh (xs:=xs) (k:=k) V);rw [PX.o] at D3;clear HP;have uM:=I (Nc (l:=xs.drop 3) A0a.o (fun x Z=>pE.o.num.GJ x (List.mem_of_mem_drop Z)));clear pD PX;generalize pairs hh (xs.drop 3)=ps at*;have HW:=I (fun(W:World) (hW:aK wv W)=>Zx (m:=⟨z,dd,hh,ps⟩) W ⟨_,rfl,U ap ps.length cp,rfl,HZI.o,A1W.o,A0a.o,(pX.yZ pE.o.own uM.o).mono hW.sub⟩);obtain⟨m0,m1,m2,m3⟩:=aT pE.o.msg;have z7:B6<wv.heap.size:=(γ pE.o.msg);go_wp2_with fail
       refine(HW.o _ (aG _)).mono ?_;rintro e9 wy2 ⟨rfl,hby⟩;have R2Y:=I (aF pE.o.res hby);have RMY:=I (aF pE.o.msg hby);have OWY:=I (kE pE.o.own hby);have GY:=I (pE.o.grow.trans hby);clear hby m0 m1 m2 m3;by_cases hwr:cZ ⟨z,dd,hh,ps⟩=0
       ·have HE:Hid (readB b=(⟨z,dd,hh,ps⟩,0)):=I (by rw [OA.o,MJ.o,bC hwr])
        have hbw:(cZ ⟨z,dd,hh,ps⟩ !=0)=false:=by simp [hwr]
        obtain⟨m0,m1,m2,m3⟩:=aT RMY.o;have z9:B6<wy2.heap.size:=(γ RMY.o);clear hwr;generalize cZ ⟨z,dd,hh,ps⟩=er at*;go_wp2_with (first|(refine aQ rfl (.tmp 2) (.tmp 142) rfl rfl rfl R2Y.o jo rfl rfl ?_))
        intro w7 r7 g7;obtain⟨p0,p1,p2,p3⟩:=aT r7;clear m0 m1 m2 m3;go_wp2;refine dw (v:=.tuple #[.agg #[J z,J dd,J hh,U ap ps.length cp],J 0]) (by simp [results,Tryz.results52,go_sem,p0,p1,p2,p3]) rfl ?_;rw [HE.o];refine⟨_,rfl,⟨_,rfl,U ap ps.length cp,rfl,HZI.o,A1W.o,A0a.o,?_⟩,GY.o.grown g7 (fun q O=>by simp at O;omega)⟩;have h9:=bK.pts (c:=fun _=>none) (OWY.o.kept g7 (by
         cases e9:(Value.slice ap ps.length cp).ownBlock with
         |none=>exact .inl rfl
         |some q=>exact .inr (by have:=(pE.o.own.lt q e9).1;have:=pE.o.wbs;have:=Gt.o;intro e8;have:=bI e8;omega))) uM.o
        exact h9.slc ε (fun _ _ e9=>by cases e9) (fun a9 ha=>dY (by have:=pE.o.wbs;have:=Gt.o;omega))
       ·have HE:Hid (readB b=(ms0,cZ ⟨z,dd,hh,ps⟩)):=I (by rw [OA.o,MJ.o,aV hwr])
        have hbw:(cZ ⟨z,dd,hh,ps⟩ !=0)=true:=by simp [hwr]
        clear hwr;generalize cZ ⟨z,dd,hh,ps⟩=er at*;go_wp2_with fail
        refine(wu _).mono ?_;rintro e8 w8 ⟨rfl,lD⟩;have R8:=I (aF R2Y.o lD);have G8:=I (GY.o.trans lD);clear lD;go_wp2_with (first|(refine aQ rfl (.tmp 2) (.tmp 140) rfl rfl rfl R8.o jo rfl rfl ?_))
        intro w7 r7 g7;obtain⟨p0,p1,p2,p3⟩:=aT r7;go_wp2;refine dw (v:=.tuple #[.agg #[J 0,J 0,J 0,()],J er]) (by simp [results,Tryz.results52,go_sem,p0,p1,p2,p3]) rfl ?_;rw [HE.o];exact⟨_,rfl,oI _,G8.o.grown g7 (fun q O=>by simp at O;omega)⟩
    ·have hrl:(0:Int)<(r.length:Int):=by have:=List.length_pos_iff.2 hr;omega
     have HE:Hid (readB b=(ms0,2)):=I (by rw [OA.o,MJ.o,bC hr]);go_wp2_with fail
     refine(wu _).mono ?_;rintro e8 w8 ⟨rfl,lD⟩;have R8:=I (aF YH.o lD);have G8:=I (GX.o.trans lD);clear lD;go_wp2_with (first|(refine aQ rfl (.tmp 2) (.tmp 100) rfl rfl rfl R8.o jo rfl rfl ?_))
     intro w7 r7 g7;obtain⟨p0,p1,p2,p3⟩:=aT r7;go_wp2;refine dw (v:=.tuple #[.agg #[J 0,J 0,J 0,()],J 2]) (by simp [results,Tryz.results52,go_sem,p0,p1,p2,p3]) rfl ?_;rw [HE.o];exact⟨_,rfl,oI _,G8.o.grown g7 (fun q O=>by simp at O;omega)⟩
 ·have HOT:=I (show Ak b=false by rw [uM.o];exact decide_eq_false ht)
  have hbx:((s:Int) !=IntKind.i64.wrap (IntKind.i64.wrap (256*IntKind.i64.wrap (x:Int))+(y:Int)))=true:=by rw [IntWalk.i64_in (x:Int) V,IntWalk.i64_in (256*(x:Int)) V,IntWalk.i64_in (256*(x:Int)+(y:Int)) V];rw [bne_iff_ne];omega
  have G0:((s:Int) !=IntKind.i64.wrap (IntKind.i64.wrap (256*IntKind.i64.wrap (x:Int))+IntKind.i64.wrap (y:Int)))=true:=by rw [IntWalk.i64_in (x:Int) V,IntWalk.i64_in (y:Int) V,IntWalk.i64_in (256*(x:Int)) V,IntWalk.i64_in (256*(x:Int)+(y:Int)) V];rw [bne_iff_ne];omega
  have hbx2:((s:Int) !=256*(x:Int)+(y:Int))=true:=by rw [bne_iff_ne];omega
  clear uM ht;have ha1:IntKind.i64.wrap ((e:Int)+1)=(e:Int)+1:=IntWalk.i64_in _ V;have hi1:(e:Int)+1<(e:Int)+2:=by omega
  have hi0:(0:Int)<=(e:Int)+1:=by omega
  have hec:(e:Int)<=(cap:Int):=by omega
  have A2O:(0:Int)<=(e:Int):=by omega
  have A2P:(e:Int)<(e:Int)+2:=by omega
  have HE:Hid (readB b=(ms0,7)):=I (by unfold readB;rw [aV YF.o,aV (by rw [HOT.o];decide)]);go_enter Tryz.func52,Tryz.ntmps52;go_upto_region 5 with fail
  rw [<-fZ];clear fZ;go_cut [42] from 43 (fun s42 wc=>s42=.bool true/\aK wa wc)
  case first=>
   go_region_held3 (fun w'=>w'.cell? ⟨bb,o+e,none⟩=some (.int .u8 x)/\w'.cell? ⟨bb,o+(e+1),none⟩=some (.int .u8 y)) (first|assumption|exact HS.o _ Aw) (first|(go_at_call 93;refine(Z0.o _ Aw).mono ?_;rintro e0 w4 ⟨rfl,qW⟩))
   have NN:aK wa w4:=Aw;go_wp2;go_meet
   case rel=>exact⟨by first|rfl|(rw [hbx];done)|(rw [hbx2];done)|(rw [G0];done),NN⟩
  case rest=>
  obtain⟨rfl,NN⟩:=hcut;have R4:=I (aF R2.o NN);go_wp2_with fail
  refine(wu _).mono ?_;rintro e w5 ⟨rfl,hb⟩;have R5:=I (aF R4.o hb);have G5:=I (G1.o.trans (NN.trans hb));clear hb;go_wp2_with (first|(refine aQ rfl (.tmp 2) (.tmp 45) rfl rfl rfl R5.o jo rfl rfl ?_))
  intro w7 r7 g7;obtain⟨p0,p1,p2,p3⟩:=aT r7;go_wp2;refine dw (v:=.tuple #[.agg #[J 0,J 0,J 0,()],J 7]) (by simp [results,Tryz.results52,go_sem,p0,p1,p2,p3]) rfl ?_;rw [HE.o];exact⟨_,rfl,oI _,G5.o.grown g7 (fun q O=>by simp at O;omega)⟩
theorem pH {v:Value} {b:List UInt8} (w:World) (hv:Ya w.cell? v b):
  Calls Tryz.prog 52 #[v] w fun e w'=>∃v',e=.returned (.tuple #[v',J (readB b).2])/\Of Ty.ms w'.cell? v' (readB b).1/\aK w w':=
 (PW w hv).mono fun e w' ⟨v',he,hO,hg⟩=>⟨v',he,hO.mono (fun a u e9=>by
  unfold ov at e9;split at e9
  ·cases e9
  ·exact e9),hg⟩
theorem xK {P:Program} {t e:TypeId} {size bytes:Nat} (hE:EI P t e size bytes) {α:Type} {T:Ty α} (hT:T.size=size) (N:EX T) (zi:0<bytes) {c:CM} {w:World} {o:Oper} {a:Act} {K:Act->World->Prop} {Q:Exit->Act->World->Prop} (s x:Operand) (ho:o.op=.call { callee:=.builtin .append,args:=#[s,x],argTypes:=#[t,t] })
  {base:Nat} {v vs:Value} {l m k:List α} (hk:l++m=k) (hs:a.eval s=v) (bU:bK T c w base e v l) (Z:a.eval x=vs) (hsrc:Src T c w vs m)
  (hbytes:(l.length+m.length)*bytes<=140737488355328) (hbase:base<=w.heap.size)
  (h:∀a' n' c' w',n'=k.length->bK T c w' base e (U a' n' c') k->w.grownBy w' v.ownBlock->((Value.slice a' n' c').ownBlock=v.ownBlock∨∃g,(Value.slice a' n' c').ownBlock=some g/\w.heap.size<=g)->K (a.put o.dst (U a' n' c')) w'):o.wp P a w K Q:=
 fP hE hT N zi s x ho hs bU Z hsrc hbytes hbase fun a' c' w' Y h3 h4=>h a' _ c' w' (by rw [<-hk,List.length_append]) (hk▸Y) h3 h4
end Go.Proofs.YtocnmkefmgmkbaaGreat
