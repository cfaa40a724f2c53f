/- The parts that laws are proved of, joined: E1, R2, B1, B5, Y0, Z1, Str, Z2, Y2, Y1, V1, V2, M4, R3, B2, Y6, Y3, Y5, Y7, R1, Y4, Y8, E2, R5, R6, R7, R8, B4, R9, R10, Lit, A4, A2, K17, Z3, Z4. No condition beside those that each theorem names. -/
import Derived.Laws.BitsAllLaws
import Derived.Laws.Bits64
import Derived.Laws.BytesArg
import Derived.Lib.SlBytesRow
import Derived.Sort.OwnSortedInts
import Derived.Test.YthfgeelcbcgahaaGreatDoorShelf
import Derived.IntWalk
import Derived.Deep.Cut
import Derived.Deep.DeepCutAuto
import Derived.Laws.CopyRow
import Derived.Test.YthfgeelcbcgahaaGreatDoorJD1b
namespace Go.Proofs.YthfgeelcbcgahaaGreatDoor
open Go.RowKit
theorem same_all {α:Type} {l l':List α} {k:Nat} (hl:l.length=l'.length) (hk:l.length≤k) (h:∀j,j<k→l[j]? =l'[j]?):l=l':=by
 apply List.ext_getElem?
 intro j
 by_cases hj:j<k
 ·exact h j hj
 ·rw [List.getElem?_eq_none (by omega),List.getElem?_eq_none (by omega)]
theorem same_next {α:Type} {l l':List α} {k:Nat} (h1:k<l.length) (h2:k<l'.length) (h:∀j,j<k→l[j]? =l'[j]?) (he:l[k]=l'[k]):∀j,j<k+1→l[j]? =l'[j]?:=by
 intro j hj
 by_cases e:j=k
 ·subst e;rw [List.getElem?_eq_getElem h1,List.getElem?_eq_getElem h2,he]
 ·exact h j (by omega)
theorem same_not {α:Type} [DecidableEq α] {l l':List α} {k:Nat} (h1:k<l.length) (h2:k<l'.length) (he:¬l[k]=l'[k]):decide (l=l')=false:=by
 rw [decide_eq_false_iff_not]
 rintro rfl
 exact he rfl
theorem owns_grow {w w':World} {base:Nat} {e:TypeId} {size n:Nat} {v:Value} {xs:List Value} (h:w.ownsRow base e size v n xs) (hg:Grow w w'):w'.ownsRow base e size v n xs:=
 h.kept (grownBy_of_grow hg none) (by cases v.ownBlock with|none=>exact .inl rfl|some k=>exact .inr (by simp))
end Go.Proofs.YthfgeelcbcgahaaGreatDoor
namespace Go.Proofs.YthfgeelcbcgahaaGreatDoor
def sumStep (s:Nat) (c:UInt8):Nat:=(s*263+c.toNat+1) % 65521
def sumFrom (s:Nat) (b:List UInt8):Nat:=b.foldl sumStep s
def sumB (b:List UInt8):Nat:=sumFrom 5 b
theorem sumStep_lt (s:Nat) (c:UInt8):sumStep s c<65521:=Nat.mod_lt _ (by decide)
theorem sumFrom_lt:∀(b:List UInt8) {s:Nat},s<65521→sumFrom s b<65521
 | [],_,h=>h
 |c::b,_,_=>sumFrom_lt b (sumStep_lt _ c)
theorem sumB_lt (b:List UInt8):sumB b<65521:=sumFrom_lt b (by decide)
def varint (u:Nat):List UInt8:=if u<128 then [UInt8.ofNat u] else UInt8.ofNat (u % 128+128)::varint (u/128)
termination_by u
decreasing_by omega
theorem varint_small {u:Nat} (h:u<128):varint u=[UInt8.ofNat u]:=by rw [varint,if_pos h]
theorem varint_big {u:Nat} (h:¬u<128):varint u=UInt8.ofNat (u % 128+128)::varint (u/128):=by rw [varint,if_neg h]
theorem varint_pos (u:Nat):0<(varint u).length:=by
 by_cases h:u<128
 ·rw [varint_small h];simp
 ·rw [varint_big h];simp
def zig (n:Int):Nat:=if n<0 then 2*(-n - 1).toNat+1 else 2*n.toNat
def zag (u:Nat):Int:=if u % 2=1 then -((u/2:Nat):Int) - 1 else((u/2:Nat):Int)
theorem zag_zig (n:Int):zag (zig n)=n:=by
 unfold zag zig
 by_cases h:n<0
 ·rw [if_pos h,if_pos (by omega)];omega
 ·rw [if_neg h,if_neg (by omega)];omega
def numB (n:Int):List UInt8:=varint (zig n)
def getGo (i u:Nat):List UInt8→Int×Int×Int
 | []=>(0,0,8)
 |c::b=>if 6≤i then(0,0,3) else if 128≤c.toNat then getGo (i+1) (u+c.toNat % 128*128^i) b
  else if 0<i∧c.toNat=0 then(0,0,2) else(zag (u+c.toNat % 128*128^i),(i:Int)+1,0)
def getB (b:List UInt8):Int×Int×Int:=getGo 0 0 b
theorem ofNat_small {u:Nat} (h:u<256):(UInt8.ofNat u).toNat=u:=by rw [UInt8.toNat_ofNat'];omega
theorem get_varint:∀(v i u:Nat) (b:List UInt8),i<6→v<128^(6 - i)→(0<v∨i=0)→getGo i u (varint v++b)=(zag (u+v*128^i),(i:Int)+(varint v).length,0):=by
 intro v
 induction v using Nat.strongRecOn with
 |ind v ih=>
  intro i u b hi hv h0
  by_cases h:v<128
  ·rw [varint_small h,List.singleton_append,getGo,if_neg (by omega),ofNat_small (by omega),if_neg (by omega),if_neg (by omega),Nat.mod_eq_of_lt h]
   simp
  ·have hi5:i+1<6:=by
    by_cases h5:i=5
    ·subst h5
     have:(128:Nat)^(6 - 5)=128:=rfl
     omega
    ·omega
   have hp:(128:Nat)^(6 - i)=128*128^(6 - (i+1)):=by rw [show 6 - i=(6 - (i+1))+1 by omega,Nat.pow_succ,Nat.mul_comm]
   rw [varint_big h,List.cons_append,getGo,if_neg (by omega),ofNat_small (by omega),if_pos (by omega),show(v % 128+128) % 128=v % 128 by omega,
    ih (v/128) (by omega) (i+1) _ b hi5 (by rw [hp] at hv;exact Nat.div_lt_of_lt_mul hv) (.inl (by omega))]
   have e:u+v % 128*128^i+v/128*128^(i+1)=u+v*128^i:=by
    have h1:v/128*128^(i+1)=128*(v/128)*128^i:=by rw [Nat.pow_succ,Nat.mul_comm (128^i) 128,←Nat.mul_assoc,Nat.mul_comm (v/128) 128]
    rw [h1,Nat.add_assoc,←Nat.add_mul,Nat.mod_add_div]
   rw [e]
   simp only [List.length_cons,Prod.mk.injEq,true_and,and_true]
   push_cast
   omega
theorem get_num {n:Int} (b:List UInt8) (h:zig n<128^6):getB (numB n++b)=(n,((numB n).length:Int),0):=by
 unfold getB numB
 rw [get_varint _ 0 0 b (by omega) h (.inr rfl)]
 simp [zag_zig]
end Go.Proofs.YthfgeelcbcgahaaGreatDoor
namespace Go.Proofs.YthfgeelcbcgahaaGreatDoor
open Go.RowKit
set_option maxRecDepth 100000 in
theorem or128:∀x:Nat,x<256→x|||128=x % 128+128:=by decide
theorem bits_or128 {x:Nat} (h:x<256):bits .or .u8 (x:Int) 128=((x % 128+128:Nat):Int):=by
 have:=u8_or_nat x 128 h (by decide)
 rw [or128 x h] at this
 simpa using this
theorem bits_and127 {x:Nat} (h:x<256):bits .and .u8 (x:Int) 127=((x % 128:Nat):Int):=by
 have:=u8_and_nat x 127 h (by decide)
 rw [nat_mask7] at this
 simpa using this
theorem bits_and1 {x:Nat} (h:x<18446744073709551616):bits .and .u64 (x:Int) 1=((x % 2:Nat):Int):=by
 have:=u64_and_nat x 1 h (by decide)
 rw [nat_mask1] at this
 simpa using this
theorem pow7 (i:Nat):(2:Nat)^(7*i)=128^i:=by rw [Nat.pow_mul]
theorem bits_orGet {u v i:Nat} (hu:u<128^i) (hv:v<128) (hi:i<6):bits .or .u64 (u:Int) ((v*128^i:Nat):Int)=((u+v*128^i:Nat):Int):=by
 have h6:(128:Nat)^i≤128^5:=Nat.pow_le_pow_right (by decide) (by omega)
 have h5:(128:Nat)^5=34359738368:=by decide
 have hm:v*128^i≤127*128^i:=Nat.mul_le_mul_right _ (by omega)
 rw [u64_or_nat u (v*128^i) (by omega) (by omega),Nat.or_comm,nat_join (7*i) (v*128^i) u (by rw [pow7];exact Nat.mul_mod_left _ _) (by rw [pow7];exact hu),Nat.add_comm]
theorem xor_ones (b:Nat) (hb:b<2^64):(2^64 - 1)^^^b=2^64 - 1 - b:=by
 apply Nat.eq_of_testBit_eq
 intro i
 rw [Nat.testBit_xor,Nat.testBit_two_pow_sub_one,show 2^64 - 1 - b=2^64 - (b+1) by omega,Nat.testBit_two_pow_sub_succ hb]
 by_cases hi:i<64
 ·simp [hi]
 ·have:b.testBit i=false:=Nat.testBit_lt_two_pow (Nat.lt_of_lt_of_le hb (Nat.pow_le_pow_right (by decide) (by omega)))
  simp [hi,this]
theorem ofInt_nat64 {x:Nat} (h:x<18446744073709551616):(BitVec.ofInt 64 (x:Int)).toNat=x:=ofInt_u64 x h
theorem bits_zag {u:Nat} (h:u<9223372036854775808):bits .xor .i64 ((u/2:Nat):Int) (-((u % 2:Nat):Int))=zag u:=by
 show IntKind.i64.wrap ((BitVec.ofInt 64 ((u/2:Nat):Int)^^^BitVec.ofInt 64 (-((u % 2:Nat):Int))).toNat:Int)=_
 unfold zag
 by_cases h1:u % 2=1
 ·rw [if_pos h1,h1,BitVec.toNat_xor,ofInt_nat64 (by omega),show(BitVec.ofInt 64 (-((1:Nat):Int))).toNat=2^64 - 1 by decide,Nat.xor_comm,xor_ones _ (by omega),IntKind.wrap_i64]
  omega
 ·have h0:u % 2=0:=by omega
  rw [if_neg h1,h0,BitVec.toNat_xor,ofInt_nat64 (by omega),show(BitVec.ofInt 64 (-((0:Nat):Int))).toNat=0 by decide,Nat.xor_zero,IntKind.wrap_i64]
  omega
theorem bits_zig {n:Int} (h0:-9223372036854775808≤n) (h1:n≤9223372036854775807):bits .xor .u64 ((n*2) % 18446744073709551616) (if n<0 then 18446744073709551615 else 0)=((zig n:Nat):Int):=by
 unfold zig
 by_cases h:n<0
 ·rw [if_pos h,if_pos h]
  have e1:(n*2) % 18446744073709551616=(((2*n+18446744073709551616).toNat:Nat):Int):=by omega
  have e2:(18446744073709551615:Int)=((18446744073709551615:Nat):Int):=rfl
  rw [e1,e2,u64_xor_nat _ _ (by omega) (by decide),Nat.xor_comm]
  have:=xor_ones (2*n+18446744073709551616).toNat (by omega)
  rw [show(2:Nat)^64 - 1=18446744073709551615 by decide] at this
  rw [this]
  omega
 ·rw [if_neg h,if_neg h]
  have e1:(n*2) % 18446744073709551616=(((2*n).toNat:Nat):Int):=by omega
  have e2:(0:Int)=((0:Nat):Int):=rfl
  rw [e1,e2,u64_xor_nat _ _ (by omega) (by decide),Nat.xor_zero]
  omega
abbrev OwnB (w:World) (base:Nat) (v:Value) (b:List UInt8):Prop:=w.ownsRow base 5 1 v b.length (b.flatMap byteCell)
def MoreB (w w':World) (v v':Value):Prop:=w.grownBy w' v.ownBlock∧(v'.ownBlock=v.ownBlock∨∃g,v'.ownBlock=some g∧w.heap.size≤g)
theorem MoreB.refl (w:World) (v:Value):MoreB w w v v:=⟨⟨rfl,rfl,rfl,Nat.le_refl _,fun _ _ _=>rfl⟩,.inl rfl⟩
theorem MoreB.trans {a b c:World} {u v x:Value} (h:MoreB a b u v) (k:MoreB b c v x):MoreB a c u x:=by
 obtain⟨h1,h2⟩:=h
 obtain⟨k1,k2⟩:=k
 refine⟨⟨k1.os.trans h1.os,k1.tape.trans h1.tape,k1.output.trans h1.output,Nat.le_trans h1.size k1.size,fun i hi hne=>?_⟩,?_⟩
 ·rw [k1.block i (Nat.lt_of_lt_of_le hi h1.size),h1.block i hi hne]
  intro e
  rcases h2 with h2|⟨g,h2,hg⟩
  ·exact hne (e.trans h2)
  ·rw [h2] at e
   obtain rfl:=Option.some.inj e
   omega
 ·rcases k2 with k2|⟨g,k2,hg⟩
  ·rcases h2 with h2|⟨g,h2,hg⟩
   ·exact .inl (k2.trans h2)
   ·exact .inr ⟨g,k2.trans h2,hg⟩
  ·exact .inr ⟨g,k2,Nat.le_trans h1.size hg⟩
theorem MoreB.grow {a b c:World} {u v:Value} (h:MoreB a b u v) (k:Grow b c):MoreB a c u v:=h.trans ⟨grownBy_of_grow k _,.inl rfl⟩
theorem MoreB.ahead {a b c:World} {u v:Value} (k:Grow a b) (h:MoreB b c u v):MoreB a c u v:=MoreB.trans (v:=u) ⟨grownBy_of_grow k _,.inl rfl⟩ h
theorem MoreB.all {w0 w w':World} {v v':Value} (hG:Grow w0 w) (h:MoreB w w' v v') (hv:∀k,v.ownBlock=some k→w0.heap.size≤k):Grow w0 w':=hG.grown h.1 hv
theorem MoreB.nil {w w':World} {v':Value} (h:MoreB w w' (.slice none 0 0) v'):Grow w w':=(Grow.refl w).grown h.1 (fun k hk=>by simp [Value.ownBlock] at hk)
theorem flat_bytes (a b:List UInt8):a.flatMap byteCell++b.flatMap byteCell=(a++b).flatMap byteCell:=by rw [List.flatMap_append]
theorem appB {w0:World} {cs:Array Value} {t:TypeId} {ops:Array Oper} {rest:List Oper} {o:Oper} {a:Act} {Q:Exit→Act→World→Prop} (hgd:o.guard=none) (s x:Operand)
  (ho:o.op=.call { callee:=.builtin .append,args:=#[s,x],argTypes:=#[139,139] })
  {base:Nat} {v:Value} {b:List UInt8} (hs:a.eval s=v) (hown:OwnB w0 base v b) (hbase:base≤w0.heap.size)
  {g n c:Nat} (hx:a.eval x=.slice (some ⟨g,0,none⟩) n c) (hg:g=w0.heap.size) (ys:List UInt8) (hy:cs.toList=ys.flatMap byteCell) (hn:n=ys.length)
  (hlen:b.length+ys.length≤140737488355328)
  (h:∀v' w',OwnB w' base v' (b++ys)→MoreB w0 w' v v'→wpList Tryz.prog ops Q rest (a.put o.dst v') w'):wpList Tryz.prog ops Q (o::rest) a (w0.alloc (.cells cs t)):=by
 subst hg
 subst hn
 have hG:Grow w0 (w0.alloc (.cells cs t)):=(Grow.refl w0).alloc _
 have hone:∀u∈cs.toList,u.oneCell'=true:=by rw [hy];exact flat_one one_byte ys
 refine wpList_app_any ei_byte hgd s x ho hs (hown.alloc _) (some ⟨w0.heap.size,0,none⟩) ys.length c cs.toList hx (by simp) (by rw [hy,flat_len (size:=1) (fun _=>rfl)]) (fun ad had=>by obtain rfl:=Option.some.inj had;exact new_cells w0 cs t) hone (by unfold maxLen;omega) (by omega) (by have:=hG.size;omega) fun a' c' w' hA=>?_
 have h1:=hA.own
 rw [hy,flat_bytes] at h1
 refine h _ w' ?_ (MoreB.ahead hG ⟨hA.grown,hA.blk⟩)
 have e:b.length+ys.length=(b++ys).length:=by simp
 rw [e] at h1 ⊢
 exact h1
theorem i64_bounds {n:Int} (h:I64 n):-9223372036854775808≤n∧n≤9223372036854775807:=by
 simp [I64,Lit.wf,IntKind.min,IntKind.max,IntKind.signed,IntKind.bits] at h
 omega
theorem varint_len:∀(k u:Nat),u<128^k→(varint u).length≤k∨(k=0∧(varint u).length=1)
 |0,u,h=>by
  refine .inr ⟨rfl,?_⟩
  rw [varint_small (by simp at h;omega)];rfl
 |k+1,u,h=>by
  by_cases hs:u<128
  ·rw [varint_small hs];exact .inl (by simp)
  ·rw [varint_big hs]
   have h2:u/128<128^k:=by
    rw [Nat.pow_succ] at h
    exact Nat.div_lt_of_lt_mul (by rw [Nat.mul_comm];exact h)
   rcases varint_len k (u/128) h2 with h3|⟨rfl,h3⟩
   ·exact .inl (by simpa using h3)
   ·exfalso
    simp at h2
    omega
theorem numB_len {n:Int} (h0:-9223372036854775808≤n) (h1:n≤9223372036854775807):(numB n).length≤10:=by
 unfold numB
 have hz:zig n<128^10:=by
  have e:(128:Nat)^10=1180591620717411303424:=by decide
  rw [e]
  unfold zig
  split<;>omega
 rcases varint_len 10 _ hz with h|⟨h,-⟩
 ·exact h
 ·omega
theorem byte_wrap (x:Nat):((UInt8.ofNat x).toNat:Int)=((x % 256:Nat):Int):=by rw [UInt8.toNat_ofNat']
theorem sum_snoc (s:Nat) (b:List UInt8) (k:Nat) (h:k<b.length):sumFrom s (b.take (k+1))=sumStep (sumFrom s (b.take k)) b[k]:=by
 rw [List.take_succ_eq_append_getElem h]
 unfold sumFrom
 rw [List.foldl_append]
 rfl
abbrev Ty.bs:=Ty.sl Ty.byte
abbrev Nts:=Sl Ty.bs
theorem OwnC.bytes {c:CM} {w:World} {base:Nat} {v:Value} {l:List UInt8} (h:OwnB w base v l):OwnC Ty.byte c w base 5 v l:=
 OwnC.of_flat (T:=Ty.byte) (f:=byteCell) h fun _ _=>rfl
theorem bts_fr {W0 w1 w:World} {v:Value} {l:List UInt8} {X:List (Option Nat)} (h:OwnB w w1.heap.size v l) (hW:W0.heap.size≤w1.heap.size) (hX:∀k,w1.heap.size≤k→some k∉X):Sl Ty.byte (fr W0 w X) v l:=
 (OwnC.bytes (c:=fr W0 w X) h).slc (by decide) (Sub.refl _) fun a ha=>fr_new (by omega) (hX _ ha)
theorem Nts.at_ {c:CM} {a:Option Addr} {l:List (List UInt8)} (h:∀i x,l[i]? =some x→∃b o cs,a=some ⟨b,o,none⟩∧Ty.bs.R c cs x∧At c b (o+i*Ty.bs.size) cs) (k:Nat) (hk:k<l.length):
  ∃b o v,a=some ⟨b,o,none⟩∧c ⟨b,o+k,none⟩=some v∧Sl Ty.byte c v l[k]:=by
 obtain⟨b,o,cs,ha,⟨v,rfl,hR⟩,hA⟩:=h k l[k] (by simp [hk])
 refine⟨b,o,v,ha,?_,hR⟩
 have:=hA 0 _ rfl
 simpa [Ty.sl] using this
set_option maxRecDepth 100000 in
set_option maxHeartbeats 1000000 in
theorem net_own {v:Value} {l:List (List UInt8)} (w:World) (hv:Nts w.cell? v l) (hm:l.length*24≤140737488355328) (hp:∀b∈l,b.length≤140737488355328):
  Calls Tryz.prog 45 #[v] w fun e w'=>∃v',e=.returned v'∧OwnC Ty.bs (fr w w' [v'.ownBlock]) w' w.heap.size 139 v' l∧Grow w w':=by
 obtain⟨a,cap,rfl,h1,h2,-,hel⟩:=hv
 unfold maxLen at h2
 have HM:=η hm
 have HP:=η hp
 clear hm hp
 go_enter Tryz.func45,Tryz.ntmps45
 go_wp2
 go_loopw [3,8] (fun s3 i wr=>∃k:Nat,k≤l.length∧i=.int .i64 k∧Grow w wr∧OwnC Ty.bs (fr w wr [s3.ownBlock]) wr w.heap.size 139 s3 (l.take k)) (fun _ i _=>l.length - (intOf i).toNat)
 case atStart=>exact⟨0,by omega,rfl,Grow.refl _,OwnC.nil _ _ _ _ _⟩
 case round=>
  obtain⟨k,hk',rfl,hb,hown⟩:=hrel
  by_cases hlt:k<l.length
  ·obtain⟨b,o,vp,rfl,c0,hP⟩:=Nts.at_ hel k hlt
   obtain⟨ap,cp,rfl,-⟩:=id hP
   replace c0:=hb.sub _ _ c0
   have htk:l.take (k+1)=l.take k++ [l[k]]:=by rw [List.take_succ_eq_append_getElem hlt]
   have HTK:=η htk
   have hpl:=HP.o l[k] (List.getElem_mem _)
   have HCL:=η (fun(W:World) (hW:Grow wr W)=>clone_byte W (hP.mono (hb.trans hW).sub) (by omega))
   have hlk:(l.take k).length=k:=by simp;omega
   have HOWN:=η hown
   obtain⟨av,cv,rfl⟩:=hown.form
   clear hel hP htk hpl hown
   generalize l[k]=r at*
   generalize hlt':l.take k=lk at*
   have HLT:=η hlt'
   have HLK:=η hlk
   clear hlt' hlk
   go_wp2_with fail
   refine(HCL.o _ (Grow.refl _)).mono ?_
   rintro e w2 ⟨v2,rfl,ho2,hb2⟩
   obtain⟨a2,cap2,rfl⟩:=owns_form ho2
   have HO2:=η ho2
   have HB2:=η hb2
   clear ho2 hb2
   go_wp2_with (first|(at_builtin;refine wpList_appc (c:=fr w (w2.alloc (.cells #[.slice a2 r.length cap2] 139)) [(Value.slice av lk.length cv).ownBlock]) (base:=w.heap.size) (l:=lk) (m:=[r]) ei_bts rfl (one_Tsl Ty.byte) (by decide) rfl (.tmp 12) (.tmp 15) rfl rfl ?own rfl (Src.of_new (T:=Ty.bs) (x:=r) (cs:=#[.slice a2 r.length cap2]) ?d0 _ _ ?d1) ?d2 ?d3 ?_))
   case own=>exact(HOWN.o.mono (fr_grow (HB2.o.alloc _))).grow (HB2.o.alloc _)
   case d0=>
    refine⟨_,rfl,?_⟩
    have hlt2:=HOWN.o.lt
    refine bts_fr (w1:=wr) ?_ hb.size ?_
    ·exact owns_grow HO2.o ((Grow.refl _).alloc _)
    ·intro q hq
     simp only [List.mem_singleton]
     intro e
     have:=(hlt2 q e.symm).2
     omega
   case d1=>simp
   case d2=>have:=HM.o;have:=HLK.o;simp;omega
   case d3=>have:=(HB2.o.alloc (.cells #[.slice a2 r.length cap2] 139)).size;have:=hb.size;omega
   intro a5 c5 w5 hown5 hg5 hb5
   have hG5:Grow w w5:=grow_by (w0:=w) (hb.trans (HB2.o.alloc _)) hg5 (fun q hq=>(HOWN.o.lt q hq).1)
   have HO5:=η (hown5.mono (fr_app hg5 (hb5.imp_right fun⟨g,e,hge⟩=>⟨g,e,by simpa using hge⟩)))
   have HG5:=η hG5
   clear hown5 hg5 hb5 hG5
   go_wp2
   go_roundw
   case rel=>exact⟨k+1,by omega,by go_num,HG5.o,by rw [HTK.o];exact HO5.o⟩
   case measure=>simp [intOf];omega
  ·clear hel
   go_wp2
   go_ret
   have h9:=hown
   rw [List.take_of_length_le (by omega)] at h9
   exact⟨_,rfl,h9,hb⟩
theorem or_byte {u:Nat} {y:Int} (hy:y=bits .or .u8 ((u % 256:Nat):Int) 128):y=((UInt8.ofNat (u % 128+128)).toNat:Int):=by
 rw [hy,bits_or128 (by omega),byte_wrap]
 omega
theorem or_byte2 {u:Nat} {z:UInt8} (hz:z=UInt8.ofNat (u % 128+128)):bits .or .u8 ((u:Int) % 256) 128=(z.toNat:Int):=by
 rw [hz]
 exact or_byte (by rw [Int.natCast_emod];rfl)
theorem end_byte {u:Nat} (_:u<128) {y:Int} (hy:y=((u % 256:Nat):Int)):y=((UInt8.ofNat u).toNat:Int):=by
 rw [hy,byte_wrap]
theorem num_more {pre:List UInt8} {u:Nat} {X:List UInt8} (h:pre++varint u=X) (hu:¬u<128):(pre++ [UInt8.ofNat (u % 128+128)])++varint (u/128)=X:=by
 rw [←h,varint_big hu,List.append_assoc];rfl
theorem num_last {pre:List UInt8} {u:Nat} {X:List UInt8} (h:pre++varint u=X) (hu:u<128):pre++ [UInt8.ofNat u]=X:=by
 rw [←h,varint_small hu]
theorem zig_bits {n:Int} (h0:-9223372036854775808≤n) (h1:n≤9223372036854775807):bits .xor .u64 (IntKind.u64.wrap (IntKind.u64.wrap n*2)) (IntKind.u64.wrap (n/9223372036854775808))=((zig n:Nat):Int):=by
 rw [←bits_zig h0 h1,IntKind.wrap_u64,IntKind.wrap_u64,IntKind.wrap_u64]
 have e1:n % 18446744073709551616*2 % 18446744073709551616=(n*2) % 18446744073709551616:=by omega
 have e2:n/9223372036854775808 % 18446744073709551616=if n<0 then 18446744073709551615 else 0:=by
  split<;>omega
 rw [e1,e2]
def Lim (u:Nat):Prop:=u<18446744073709551616
theorem Lim.div {u:Nat} (h:Lim u):Lim (u/128):=by unfold Lim at*;omega
theorem zig_lim {n:Int} (h0:-9223372036854775808≤n) (h1:n≤9223372036854775807):Lim (zig n):=by unfold Lim zig;split<;>omega
set_option maxRecDepth 100000 in
set_option maxHeartbeats 1000000 in
theorem wire_number {base:Nat} {v:Value} {b:List UInt8} {n:Int} (w:World) (hown:OwnB w base v b) (hbase:base≤w.heap.size) (hn:I64 n) (hlen:b.length+10≤140737488355328):
  Calls Tryz.prog 111 #[v,.int .i64 n] w fun e w'=>∃v',e=.returned v'∧OwnB w' base v' (b++numB n)∧MoreB w w' v v':=by
 obtain⟨h0,h1⟩:=i64_bounds hn
 have HZ:=η (zig_bits h0 h1)
 have HL:=η (numB_len h0 h1)
 have hz:=zig_lim h0 h1
 have HO:=η hown
 obtain⟨a0,k0,rfl⟩:=owns_form hown
 clear hown
 go_enter Tryz.func111,Tryz.ntmps111
 go_wp2
 go_loopw [0,5] (fun bv u wr=>∃(u':Nat) (pre:List UInt8),u=.int .u64 u'∧Lim u'∧pre++varint u'=numB n∧OwnB wr base bv (b++pre)∧MoreB w wr (.slice a0 b.length k0) bv) (fun _ u _=>(intOf u).toNat)
 case atStart=>exact⟨zig n,[],congrArg (Value.int .u64) HZ.o,hz,rfl,by simpa using HO.o,MoreB.refl _ _⟩
 case round=>
  obtain⟨u,pre,rfl,hu,hE,hown,hM⟩:=hrel
  obtain⟨a1,k1,rfl⟩:=owns_form hown
  have hpl:pre.length≤9:=by
   have h1:=congrArg List.length hE
   have h2:=HL.o
   have h3:=varint_pos u
   rw [List.length_append] at h1
   omega
  have HO1:=η hown
  have HM1:=η hM
  have hsz:base≤wr.heap.size:=Nat.le_trans hbase hM.1.size
  by_cases hlt:u<128
  ·have HE:=η (num_last hE hlt)
   have HV:=η (end_byte hlt rfl)
   clear hE hown hM
   generalize (b++pre).length=nn at*
   go_wp2_with (at_builtin;refine appB rfl _ _ rfl rfl HO1.o hsz rfl rfl [UInt8.ofNat u] ?e0 rfl ?e1 ?_)
   case e0=>exact congrArg (fun x=>[Value.int .u8 x]) (end_byte hlt (by go_num))
   case e1=>simp;omega
   intro v' w' ho hm
   have HO2:=η ho
   have HM2:=η (HM1.o.trans hm)
   clear ho hm
   go_wp2
   go_ret
   exact⟨_,rfl,by rw [←HE.o];exact HO2.o,HM2.o⟩
  ·have he2:=num_more hE hlt
   obtain⟨z,hz⟩:∃z,z=UInt8.ofNat (u % 128+128):=⟨_,rfl⟩
   rw [←hz] at he2
   have HE:=η he2
   have HB:=η (or_byte2 hz)
   clear hE hown hM he2 hz
   generalize (b++pre).length=nn at*
   go_wp2_with (at_builtin;refine appB rfl _ _ rfl rfl HO1.o hsz rfl rfl [z] ?e0 rfl ?e1 ?_)
   case e0=>exact congrArg (fun x=>[Value.int .u8 x]) HB.o
   case e1=>simp;omega
   intro v' w' ho hm
   have HO2:=η ho
   have HM2:=η (HM1.o.trans hm)
   clear ho hm
   go_wp2
   go_roundw
   case rel=>exact⟨u/128,pre++ [z],by go_num,hu.div,HE.o,HO2.o,HM2.o⟩
   case measure=>simp [intOf];omega
theorem Lim.wrap {u:Nat} (h:Lim u):IntKind.u64.wrap ((u:Int)/128)=(u:Int)/128:=by
 unfold Lim at h
 rw [IntKind.wrap_u64]
 omega
theorem sum_int {s x:Nat} {c:UInt8} (hs:s<65521) (hx:c.toNat=x) (hx2:x<256) {y:Int} (hy:y=Int.tmod ((s:Int)*263+x+1) 65521):y=(sumStep s c:Int):=by
 subst hx
 unfold sumStep
 rw [hy,Int.tmod_eq_emod_of_nonneg (by omega)]
 omega
set_option maxHeartbeats 400000 in
theorem wire_sum {v:Value} {b:List UInt8} (w:World) (hv:Bts w.cell? v b):
  Calls Tryz.prog 108 #[v] w fun e w'=>e=.returned (.int .i64 (sumB b:Nat))∧Grow w w':=by
 obtain⟨a,cap,rfl,h1,h2,-,hel⟩:=hv
 unfold maxLen at h2
 go_enter Tryz.func108,Tryz.ntmps108
 go_wp2
 go_loopw [3,8] (fun s i wr=>∃k:Nat,k≤b.length∧i=.int .i64 k∧s=.int .i64 (sumFrom 5 (b.take k):Nat)∧Grow w wr) (fun _ i _=>b.length - (intOf i).toNat)
 case atStart=>exact⟨0,by omega,rfl,rfl,grA⟩
 case round=>
  obtain⟨k,hk',rfl,rfl,hb⟩:=hrel
  by_cases hlt:k<b.length
  ·obtain⟨bb,o,rfl,c0⟩:=byteAt hel k hlt
   replace c0:=hb.sub _ _ c0
   have HS:=η (sum_snoc 5 b k hlt)
   have hs:=sumFrom_lt (b.take k) (s:=5) (by decide)
   have hx:=b[k].toNat_lt
   clear hel
   obtain⟨x,hxe⟩:∃x,x=b[k].toNat:=⟨_,rfl⟩
   rw [←hxe] at c0 hx
   have HX:=η hxe
   clear hxe
   obtain⟨s,hse⟩:∃s,s=sumFrom 5 (b.take k):=⟨_,rfl⟩
   rw [←hse] at hs
   rw [←hse]
   have HE:=η hse
   clear hse
   go_wp2_with (go_quiet (fail))
   go_roundw
   case rel=>exact⟨k+1,by omega,by go_num,by
    rw [HS.o,←HE.o]
    exact congrArg (Value.int .i64) (sum_int hs HX.o.symm hx (by go_num)),grA⟩
   case measure=>simp [intOf];omega
  ·have e:b.take k=b:=List.take_of_length_le (by omega)
   rw [e]
   clear hel
   go_wp2
   go_ret
   exact⟨rfl,hb⟩
set_option maxRecDepth 100000 in
set_option maxHeartbeats 2000000 in
theorem house_tick {v:Value} {h:Hs} {me:Int} (w:World) (hv:Of Ty.hs w.cell? v h) (hme:I64 me) (hm:h.ready.length*48≤140737488355328):
  Calls Tryz.prog 75 #[v,.int .i64 me] w fun e w'=>∃v',e=.returned v'∧OwnC Ty.ms (fun _=>none) w' w.heap.size 95 v' (hTickE h me)∧Grow w w':=by
 obtain⟨al,cl,ar,cr,ad,cd,rfl⟩:=hv.hs_form
 obtain⟨ar',cr',he,h1,h2,-,hel⟩:=(Of.hs_log hv).2.1
 obtain⟨rfl,rfl⟩:ar=ar'∧cr=cr':=by simpa using he
 unfold maxLen at h2
 have HM:=η hm
 have HME:=η hme
 clear hm hme he hv
 go_enter Tryz.func75,Tryz.ntmps75
 go_wp2
 go_loopw [5,11] (fun s5 i wr=>∃k:Nat,k≤h.ready.length∧i=.int .i64 k∧Grow w wr∧OwnC Ty.ms (fun _=>none) wr w.heap.size 95 s5 ((h.ready.take k).map fun r=>(⟨7,r.deed,me,[]⟩:Ms))) (fun _ i _=>h.ready.length - (intOf i).toNat)
 case atStart=>exact⟨0,by omega,rfl,grA,OwnC.nil _ _ _ _ _⟩
 case round=>
  obtain⟨k,hk',rfl,hb,hown⟩:=hrel
  by_cases hlt:k<h.ready.length
  ·obtain⟨b,o,vp,rfl,c0,c1,i0,hP⟩:=Rds.at_ hel k hlt
   obtain⟨ap,cp,rfl,-⟩:=id hP
   replace c0:=hb.sub _ _ c0
   replace c1:=hb.sub _ _ c1
   have HTK:=η (show(h.ready.take (k+1)).map (fun r=>(⟨7,r.deed,me,[]⟩:Ms))=(h.ready.take k).map (fun r=>(⟨7,r.deed,me,[]⟩:Ms))++ [⟨7,h.ready[k].deed,me,[]⟩] by rw [List.take_succ_eq_append_getElem hlt,List.map_append];rfl)
   have HLK:=η (show((h.ready.take k).map fun r=>(⟨7,r.deed,me,[]⟩:Ms)).length≤k by simp;omega)
   have HOWN:=η hown
   have HI:=η i0
   obtain⟨av,cv,rfl⟩:=hown.form
   clear hel hP hown i0
   generalize h.ready[k]=r at*
   generalize (h.ready.take k).map (fun r=>(⟨7,r.deed,me,[]⟩:Ms))=ms at*
   go_wp2_with (first|(at_builtin;refine wpList_appc (c:=fun _=>none) (base:=w.heap.size) (l:=ms) (m:=[⟨7,r.deed,me,[]⟩]) ei_ms rfl one_Tms (by decide) rfl (.tmp 15) (.tmp 20) rfl rfl ?own rfl (Src.of_new (T:=Ty.ms) (cs:=#[.int .i64 7,.int .i64 r.deed,.int .i64 me,.slice none 0 0]) ⟨_,rfl,(show I64 7 from by unfold I64;decide),HI.o,HME.o,Sl.nil _ _⟩ _ _ ?d1) ?d2 ?d3 ?_))
   case own=>exact HOWN.o.grow (((Grow.refl _).alloc _).alloc _)
   case d1=>simp
   case d2=>have:=HM.o;have:=HLK.o;simp;omega
   case d3=>have:=hb.size;simp;omega
   intro a9 c9 w9 ho9 hg9 hb9
   have HG9:Hid (Grow w w9):=η (grow_by (w0:=w) ((hb.alloc _).alloc _) hg9 (fun q hq=>(HOWN.o.lt q hq).1))
   have HO9:=η ho9
   clear ho9 hg9 hb9
   go_wp2
   go_roundw
   case rel=>exact⟨k+1,by omega,by go_num,HG9.o,by rw [HTK.o];exact HO9.o⟩
   case measure=>simp [intOf];omega
  ·clear hel
   go_wp2
   go_ret
   have h9:=hown
   rw [List.take_of_length_le (by omega)] at h9
   exact⟨_,rfl,h9,hb⟩
theorem is_lit (w:World) (B:Nat) (d:Int) (wx:World) (cs:List Value) (x:Rd) (hc:w.cell? ⟨B,0,none⟩=some (.int .i64 d)) (hg:Grow w wx) (hR:Ty.rd.R wx.cell? cs x):
  Calls Tryz.prog 136 #[.agg cs.toArray,.pointer (some ⟨B,0,none⟩)] wx fun e w'=>e=.returned (.bool (isD d x))∧Grow wx w':=by
 obtain⟨vp,rfl,-,hp⟩:=hR
 obtain⟨ap,cp,rfl,-⟩:=hp
 have hB:=World.block_lt_of_cell? w _ hc
 simp only at hB
 have hBx:B<wx.heap.size:=Nat.lt_of_lt_of_le hB hg.size
 replace hc:=hg.sub _ _ hc
 go_enter Tryz.func136,Tryz.ntmps136
 go_wp2
 go_ret
 exact⟨rfl,grA⟩
theorem is_tells (w:World) (B:Nat) (d:Int) (l:List Rd) (hc:w.cell? ⟨B,0,none⟩=some (.int .i64 d)):Tells Tryz.prog Ty.rd aggOf w 136 #[.pointer (some ⟨B,0,none⟩)] l (isD d) where
 ent:=fun args w=>by kernel_rfl
 say:=fun wx cs x hg _ hR=>is_lit w B d wx cs x hc hg hR
theorem house_is {B:Nat} {d:Int} {l:List Rd} {a:Option Addr} {cap:Nat} (w:World) (hb:B<w.heap.size) (hc:w.cell? ⟨B,5,none⟩=some (.slice a l.length cap)) (hv:Sl Ty.rd w.cell? (.slice a l.length cap) l):
  Calls Tryz.prog 101 #[.pointer (some ⟨B,0,none⟩),.int .i64 d] w fun e w'=>e=.returned (.bool (readyE l d))∧Grow w w':=by
 have HX:=η (containsFunc_rd (w.alloc (.cells #[.int .i64 d] 3)) (hv.mono ((Grow.refl w).alloc _).sub) (is_tells (w.alloc (.cells #[.int .i64 d] 3)) w.heap.size d l (by rw [World.cell?_alloc_new];rfl)))
 clear hv
 go_enter Tryz.func101,Tryz.ntmps101
 go_wp2_with fail
 refine HX.o.mono ?_
 rintro e w1 ⟨rfl,hb1⟩
 have HB:=η hb1
 clear hb1
 go_wp2
 go_ret
 exact⟨rfl,((Grow.refl w).alloc _).trans HB.o⟩
set_option maxHeartbeats 400000 in
theorem index_int {v:Value} {l:List Int} {n:Int} (w:World) (hv:Ints w.cell? v l):
  Calls Tryz.prog 81 #[v,.int .i64 n] w fun e w'=>e=.returned (.int .i64 (idxOf (fun x=>n==x) l))∧Grow w w':=by
 obtain⟨a,cap,rfl,h1,h2,-,hel⟩:=hv
 unfold maxLen at h2
 go_enter Tryz.func81,Tryz.ntmps81
 go_wp2
 go_loopw [4,5,8] (fun _ _ i wr=>∃k:Nat,k≤l.length∧i=.int .i64 k∧Grow w wr∧(l.take k).findIdx? (fun x=>n==x)=none) (fun _ _ i _=>l.length - (intOf i).toNat)
 case atStart=>exact⟨0,by omega,rfl,grA,by simp⟩
 case round=>
  obtain⟨k,hk',rfl,hb,hE⟩:=hrel
  by_cases hlt:k<l.length
  ·obtain⟨b,o,rfl,c0,-⟩:=intAt hel k hlt
   replace c0:=hb.sub _ _ c0
   obtain⟨s1,s2⟩:=idx_step hlt hE
   have S1:=η s1
   have S2:=η s2
   clear hel hE s1 s2
   generalize l[k]=x at*
   cases ht:(n==x)
   ·have S3:=η (S2.o ht)
    clear S1 S2
    go_wp2
    go_roundw
    case rel=>exact⟨k+1,by omega,by go_num,grA,S3.o⟩
    case measure=>simp [intOf];omega
   ·have S3:=η (S1.o ht)
    clear S1 S2
    go_wp2
    go_ret
    exact⟨ret_int S3.o.symm,grA⟩
  ·have HE:=η hE
   clear hel hE
   go_wp2
   go_ret
   refine⟨ret_int ?_,hb⟩
   have h9:=HE.o
   rw [List.take_of_length_le (by omega)] at h9
   unfold idxOf
   rw [h9]
theorem contains_int {v:Value} {l:List Int} {n:Int} (w:World) (hv:Ints w.cell? v l):
  Calls Tryz.prog 48 #[v,.int .i64 n] w fun e w'=>e=.returned (.bool (decide (n∈l)))∧Grow w w':=by
 have HI:=η (index_int (n:=n) w hv)
 have HN:Hid (decide (0≤idxOf (fun x=>n==x) l)=decide (n∈l)):=by
  show _=_
  rw [idxOf_nonneg,Bool.eq_iff_iff,List.any_eq_true,decide_eq_true_eq]
  constructor
  ·rintro⟨x,hx,h⟩
   have:n=x:=by simpa using h
   rw [this];exact hx
  ·intro h;exact⟨n,h,by simp⟩
 clear hv
 generalize idxOf (fun x=>n==x) l=i at*
 go_enter Tryz.func48,Tryz.ntmps48
 go_wp2_with (go_at_call 81;refine HI.o.mono ?_;rintro e w' ⟨rfl,hb'⟩)
 go_ret
 exact⟨ret_bool HN.o,hb'⟩
set_option maxRecDepth 100000 in
set_option maxHeartbeats 2000000 in
theorem house_vote {v vp:Value} {h:Hs} {d:Int} {ps:List Pt} (w:World) (hv:Of Ty.hs w.cell? v h) (hp:Pts w.cell? vp ps) (hk:KeysOk ps):
  Calls Tryz.prog 100 #[v,.int .i64 d,vp] w fun e w'=>e=.returned (.int .i64 (voteE h d ps))∧Grow w w':=by
 have HO:=η hv
 obtain⟨al,cl,ar,cr,ad,cd,rfl⟩:=hv.hs_form
 have kk:=Of.hs_log hv
 have HIN:=η (fun(W:World) (hW:Grow w W)=>contains_int (n:=d) W (kk.2.2.mono hW.sub))
 have HIS:=η (fun(W:World) (hW:Grow w W) hb hc=>house_is (B:=w.heap.size) (d:=d) W hb hc (kk.2.1.mono hW.sub))
 have HFR:=η (fun(W:World) (hW:Grow w W)=>locks_free W (HO.o.mono hW.sub) (hp.mono hW.sub))
 have HFT:=η (fun(W:World) (hW:Grow w W)=>part_fits (s0:=h.sums.a) (s1:=h.sums.b) (s2:=h.sums.c) (s3:=h.sums.d) W (hp.mono hW.sub) hk)
 have HROW:=η (row_new w (.cells #[.slice al h.log.length cl,.int .i64 h.sums.a,.int .i64 h.sums.b,.int .i64 h.sums.c,.int .i64 h.sums.d,.slice ar h.ready.length cr,.slice ad h.done.length cd] 68))
 have HG0:=η ((Grow.refl w).alloc (.cells #[.slice al h.log.length cl,.int .i64 h.sums.a,.int .i64 h.sums.b,.int .i64 h.sums.c,.int .i64 h.sums.d,.slice ar h.ready.length cr,.slice ad h.done.length cd] 68))
 clear hv hp hk kk
 by_cases hd:d∈h.done
 ·have HE:Hid (voteE h d ps=10):=by show voteE h d ps=10;unfold voteE;rw [if_pos hd]
  have HD:=η (decide_eq_true hd)
  clear hd
  go_enter Tryz.func100,Tryz.ntmps100
  go_wp2_with fail
  refine(HIN.o _ HG0.o).mono ?_
  rw [HD.o]
  rintro e w1 ⟨rfl,hb1⟩
  go_wp2
  go_ret
  exact⟨ret_int HE.o.symm,HG0.o.trans hb1⟩
 have HD:=η (decide_eq_false hd)
 by_cases hr:readyE h.ready d=true
 ·have HE:Hid (voteE h d ps=0):=by show voteE h d ps=0;unfold voteE;rw [if_neg hd,if_pos hr]
  have HR:=η hr
  clear hd hr
  go_enter Tryz.func100,Tryz.ntmps100
  go_wp2_with fail
  refine(HIN.o _ HG0.o).mono ?_
  rw [HD.o]
  rintro e w1 ⟨rfl,hb1⟩
  have HB1:=η hb1
  clear hb1
  have R1:=η (row_grow HROW.o HB1.o)
  go_wp2_with fail
  refine(HIS.o w1 (HG0.o.trans HB1.o) (γ R1.o) (cells7 R1.o).2.2.2.2.2.1).mono ?_
  rw [HR.o]
  rintro e w2 ⟨rfl,hb2⟩
  go_wp2
  go_ret
  exact⟨ret_int HE.o.symm,(HG0.o.trans HB1.o).trans hb2⟩
 have HR:Hid (readyE h.ready d=false):=by show _=_;simpa using hr
 cases hf:freeE h.ready ps with
 |false=>
  have HE:Hid (voteE h d ps=12):=by show voteE h d ps=12;unfold voteE;rw [if_neg hd,if_neg hr,if_pos hf]
  clear hd hr
  go_enter Tryz.func100,Tryz.ntmps100
  go_wp2_with fail
  refine(HIN.o _ HG0.o).mono ?_
  rw [HD.o]
  rintro e w1 ⟨rfl,hb1⟩
  have HB1:=η hb1
  clear hb1
  have R1:=η (row_grow HROW.o HB1.o)
  go_wp2_with fail
  refine(HIS.o w1 (HG0.o.trans HB1.o) (γ R1.o) (cells7 R1.o).2.2.2.2.2.1).mono ?_
  rw [HR.o]
  rintro e w2 ⟨rfl,hb2⟩
  have HB2:=η ((HG0.o.trans HB1.o).trans hb2)
  obtain⟨s0,s1,s2,s3,s4,s5,s6⟩:=cells7 (row_grow R1.o hb2)
  clear hb2
  go_wp2_with fail
  refine(HFR.o w2 HB2.o).mono ?_
  rw [hf]
  rintro e w3 ⟨rfl,hb3⟩
  go_wp2
  go_ret
  exact⟨ret_int HE.o.symm,HB2.o.trans hb3⟩
 |true=>
  have HE:Hid (voteE h d ps=fitsE h.sums.get ps):=by show voteE h d ps=_;unfold voteE;rw [if_neg hd,if_neg hr,if_neg (by rw [hf];simp)]
  clear hd hr
  go_enter Tryz.func100,Tryz.ntmps100
  go_wp2_with fail
  refine(HIN.o _ HG0.o).mono ?_
  rw [HD.o]
  rintro e w1 ⟨rfl,hb1⟩
  have HB1:=η hb1
  clear hb1
  have R1:=η (row_grow HROW.o HB1.o)
  go_wp2_with fail
  refine(HIS.o w1 (HG0.o.trans HB1.o) (γ R1.o) (cells7 R1.o).2.2.2.2.2.1).mono ?_
  rw [HR.o]
  rintro e w2 ⟨rfl,hb2⟩
  have HB2:=η ((HG0.o.trans HB1.o).trans hb2)
  have R2:=η (row_grow R1.o hb2)
  obtain⟨s0,s1,s2,s3,s4,s5,s6⟩:=cells7 R2.o
  clear hb2
  go_wp2_with fail
  refine(HFR.o w2 HB2.o).mono ?_
  rw [hf]
  rintro e w3 ⟨rfl,hb3⟩
  have HB3:=η (HB2.o.trans hb3)
  clear s0 s1 s2 s3 s4 s5 s6
  obtain⟨s0,s1,s2,s3,s4,s5,s6⟩:=cells7 (row_grow R2.o hb3)
  clear hb3
  go_wp2_with fail
  refine(HFT.o w3 HB3.o).mono ?_
  rintro e w4 ⟨rfl,hb4⟩
  go_wp2
  go_ret
  exact⟨ret_int (by rw [HE.o];rfl),HB3.o.trans hb4⟩
theorem cells3 {w:World} {B:Nat} {a b c:Value} {t:TypeId} (h:w.heap[B]? =some (.cells #[a,b,c] t (0,0))):w.cell? ⟨B,0,none⟩=some a∧w.cell? ⟨B,1,none⟩=some b∧w.cell? ⟨B,2,none⟩=some c:=by
 refine⟨?_,?_,?_⟩<;>simp [World.cell?,h]
theorem ints_back {c:CM} {w:World} {base e:Nat} {v:Value} {l:List Int} (h:OwnC Ty.int c w base e v l):w.ownsRow base e 1 v l.length (l.flatMap intCell):=by
 obtain⟨css,h1,h2,h3⟩:=h
 have:css.flatten=l.flatMap intCell:=by
  rw [List.flatMap_def]
  congr 1
  apply List.ext_getElem?
  intro i
  rw [List.getElem?_map]
  by_cases hi:i<l.length
  ·have e1:css[i]? =some css[i]:=List.getElem?_eq_getElem (by omega)
   have e2:l[i]? =some l[i]:=List.getElem?_eq_getElem hi
   rw [e1,e2]
   simp only [Option.map_some,Option.some.injEq]
   exact(h3 i _ _ e1 e2).1
  ·rw [List.getElem?_eq_none (by omega),List.getElem?_eq_none (by omega)];rfl
 rw [←this];exact h1
theorem hok_step {h:Hs} {n:Nat} (k:HOk h n) {r:Rc} (hd:I64 r.deed) (hr:KeysOk r.parts):HOk (refStep h r) (n+1):=by
 have h1:=k.ready
 have h2:=k.done
 cases hf:h.ready.find? (isD r.deed) with
 |none=>
  rw [step_out hf]
  split
  ·exact⟨by simp;omega,by show h.done.length≤_;omega,fun x hx=>by
    rcases List.mem_append.1 hx with hx|hx
    ·exact k.keys x hx
    ·rw [List.mem_singleton.1 hx];exact hr,k.sums,k.ints⟩
  ·exact⟨by omega,by omega,k.keys,k.sums,k.ints⟩
 |some x=>
  rw [step_in hf]
  have hle:(h.ready.eraseP (isD r.deed)).length≤h.ready.length:=List.eraseP_sublist.length_le
  split
  ·exact⟨by show(h.ready.eraseP _).length≤_;omega,by simp;omega,fun y hy=>k.keys y (List.eraseP_sublist.subset hy),k.sums.doP _,fun y hy=>by
    rcases List.mem_append.1 hy with hy|hy
    ·exact k.ints y hy
    ·rw [List.mem_singleton.1 hy];exact hd⟩
  ·split
   ·exact⟨by show(h.ready.eraseP _).length≤_;omega,by show h.done.length≤_;omega,fun y hy=>k.keys y (List.eraseP_sublist.subset hy),k.sums,k.ints⟩
   ·exact⟨by omega,by omega,k.keys,k.sums,k.ints⟩
set_option maxRecDepth 100000 in
set_option maxHeartbeats 4000000 in
theorem wlog_house {v:Value} {l:List Rc} (w:World) (hv:Rcs w.cell? v l) (hk:∀r∈l,KeysOk r.parts) (hm:l.length*40≤140737488351232) (hp:∀r∈l,r.parts.length*24≤140737488355328):
  Calls Tryz.prog 35 #[v] w fun e w'=>∃v',e=.returned v'∧Of Ty.hs (ov (fun _=>none) w w') v' (houseR l)∧Grow w w':=by
 have HOWN:=η (log_own (w.alloc (.cells zrow 68)) (hv.mono ((Grow.refl w).alloc _).sub) (by omega) hp)
 have HK:=η hk
 have HM:=η hm
 have HP:=η hp
 obtain⟨al0,cl0,rfl,-⟩:=hv
 have hlm:l.length≤3518437208883:=by omega
 clear hk hm hp
 go_enter Tryz.func35,Tryz.ntmps35
 go_wp2_with fail
 refine HOWN.o.mono ?_
 rintro e w1 ⟨vl,rfl,hown,hb1⟩
 obtain⟨al,cl,rfl⟩:=hown.form
 have HOW:=η hown
 have HB1:=η hb1
 have z1:w.heap.size+1≤w1.heap.size:=by have:=hb1.size;simpa using this
 clear hown hb1
 go_wp2
 go_loopw [13] (fun i wr=>∃(k:Nat) (h:Hs) (vr vd:Value),k≤l.length∧i=.int .i64 k∧(l.take k).foldl refStep ⟨l,⟨0,0,0,0⟩,[],[]⟩=h∧LBox w w1 wr (.slice al l.length cl) vr vd l h∧HOk h k) (fun i _=>l.length - (intOf i).toNat)
 case atStart=>
  refine⟨0,⟨l,⟨0,0,0,0⟩,[],[]⟩,.slice none 0 0,.slice none 0 0,by omega,rfl,rfl,?_,⟨by simp,by simp,by simp,⟨zero_ok,zero_ok,zero_ok,zero_ok⟩,by simp⟩⟩
  have hl:=HOW.o.lt
  refine⟨row_grow (row_new w _) (HB1.o.alloc _),row_new _ _,?_,OwnC.nil _ _ _ _ _,World.ownsRow_nil _ _ _ _,((Grow.refl w).alloc _).trans (HB1.o.alloc _),by simp,fun k hk=>(hl k hk).2,z1,.inl rfl⟩
  have hs0:(w.alloc (.cells zrow 68)).heap.size=w.heap.size+1:=by simp
  have h2:=HOW.o
  rw [hs0] at h2
  refine(h2.mono fun a u e=>?_).grow ((Grow.refl _).alloc _)
  unfold fr at e
  split at e
  ·cases e
  ·rename_i hn
   have hlt:=World.block_lt_of_cell? w1 a e
   rw [hs0] at hn
   unfold hmem
   rw [fr_new (by omega)]
   ·exact((Grow.refl w1).alloc _).sub _ _ e
   ·simp only [List.mem_cons,List.not_mem_nil,or_false,not_or]
    refine⟨fun e=>hn (.inr (by simp [e])),by simp [Value.ownBlock],by simp [Value.ownBlock],fun e=>?_,fun e=>?_⟩
    ·have:=Option.some.inj e;exact hn (.inl (by omega))
    ·have:=Option.some.inj e;omega
 case round=>
  obtain⟨k,h,vr,vd,hk',rfl,hfold,hbox,hok⟩:=hrel
  obtain⟨ar,cr,rfl⟩:=hbox.ready.form
  obtain⟨ad,cd,rfl⟩:=owns_form hbox.done
  have HFD:=η hfold
  have HBX:=η hbox
  have HOK0:=η hok
  have z3:=hbox.size
  have z4:w1.heap.size<wr.heap.size:=by omega
  by_cases hlt:k<l.length
  ·obtain⟨gl,cs,rfl,⟨vp,rfl,i0,i1,hP⟩,hA⟩:=hbox.log.get (by decide) k hlt
   have hP':=hP.mono (fr_sub _ _ _)
   obtain⟨ap,cp,rfl,-⟩:=id hP'
   have c0:=hA 0 _ rfl
   have c1:=hA 1 _ rfl
   have c2:=hA 2 _ rfl
   simp only [Nat.add_zero,Ty.rc] at c0 c1 c2
   have htk:(l.take (k+1)).foldl refStep ⟨l,⟨0,0,0,0⟩,[],[]⟩=refStep h l[k]:=by rw [List.take_succ_eq_append_getElem hlt,List.foldl_append,HFD.o];rfl
   have HTK:=η htk
   have hkk:=HK.o l[k] (List.getElem_mem _)
   have hpl:=HP.o l[k] (List.getElem_mem _)
   have HCL:=η (fun(W:World) (hW:Grow wr W)=>clone_pt W (hP'.mono hW.sub) hpl)
   have HI:=η (And.intro i0 (And.intro i1 (Pts.ok (c:=wr.cell?) hP')))
   have HRDY:=η (fun(W:World) (hW:Grow wr W)=>log_ready (d:=l[k].deed) W ((hbox.ready.sl (by decide) (fr_sub _ _ _)).mono hW.sub))
   have HOK1:=η (hok_step hok i1 hkk)
   have HRL:Hid (h.ready.length<3518437208883):=η (by have:=hok.ready;have:=HM.o;omega)
   have HDL:Hid (h.done.length<3518437208883):=η (by have:=hok.done;have:=HM.o;omega)
   have HINT:=η hok.ints
   have HKEYS:=η hok.keys
   have HLT:Hid (∀q,(Value.slice ar h.ready.length cr).ownBlock=some q→q<wr.heap.size):=fun q hq=>(hbox.ready.lt q hq).2
   have HLD:Hid (∀q,(Value.slice ad h.done.length cd).ownBlock=some q→q<wr.heap.size):=fun q hq=>(hbox.done.lt q hq).2
   have HSZ:=η z3
   clear hfold hok htk hkk hpl hP hP' hA i0 i1 hbox
   generalize l[k]=r at*
   obtain⟨s0,s1,s2,s3,s4,s5,s6⟩:=cells7 HBX.o.row
   go_wp2_with fail
   refine(HRDY.o _ ((Grow.refl _).alloc _)).mono ?_
   rintro e w2 ⟨rfl,hb2⟩
   have HG2:Hid (Grow wr w2):=η (((Grow.refl wr).alloc _).trans hb2)
   have HB2:=η (HBX.o.later HG2.o)
   have HR5:=η (row_grow (row_new wr (.cells #[.int .i64 r.kind,.int .i64 r.deed,.slice ap r.parts.length cp] 81)) hb2)
   clear hb2 s0 s1 s2 s3 s4 s5 s6 c0 c1 c2
   obtain⟨s0,s1,s2,s3,s4,s5,s6⟩:=cells7 HB2.o.row
   obtain⟨q0,q1,q2⟩:=cells3 HR5.o
   have s9:w1.heap.size<w2.heap.size:=(γ HB2.o.row)
   have q9:wr.heap.size<w2.heap.size:=(γ HR5.o)
   cases hix:h.ready.findIdx? (isD r.deed) with
   |none=>
    have hid:idxOf (isD r.deed) h.ready= -1:=by unfold idxOf;rw [hix]
    have hst:=step_idx_none hix
    rw [hid]
    clear hix hid
    by_cases k1:r.kind=1
    ·have b1:(r.kind==1)=true:=by simp [k1]
     rw [if_pos k1] at hst
     have HFO:=η (HTK.o.trans hst)
     have HOK:=η (hst▸HOK1.o)
     clear hst k1
     have l3:w1.heap.size<w2.heap.size:=by have:=HB2.o.size;omega
     have l5:wr.heap.size<w2.heap.size:=(γ HR5.o)
     have n3:(Value.slice ar h.ready.length cr).ownBlock≠some w1.heap.size:=fun e=>by have:=(HB2.o.ready.lt _ e).1;omega
     have n5:(Value.slice ar h.ready.length cr).ownBlock≠some wr.heap.size:=fun e=>by have:=HLT.o _ e;omega
     have HS:Hid (∀W,w2.grownBy W (Value.slice ar h.ready.length cr).ownBlock→W.cell? ⟨w1.heap.size,5,none⟩=some (.slice ar h.ready.length cr)∧W.cell? ⟨wr.heap.size,1,none⟩=some (.int .i64 r.deed)∧W.cell? ⟨wr.heap.size,2,none⟩=some (.slice ap r.parts.length cp)):=fun W hW=>⟨by rw [World.cell?_of_block (hW.block w1.heap.size l3 (fun e=>n3 e.symm))];exact s5,by rw [World.cell?_of_block (hW.block wr.heap.size l5 (fun e=>n5 e.symm))];exact q1,by rw [World.cell?_of_block (hW.block wr.heap.size l5 (fun e=>n5 e.symm))];exact q2⟩
     go_wp2
     clear s0 s1 s2 s3 s4 s5 s6 q0 q1 q2
     refine but_start (fun w'=>w'.cell? ⟨w1.heap.size,5,none⟩=some (.slice ar h.ready.length cr)∧w'.cell? ⟨wr.heap.size,1,none⟩=some (.int .i64 r.deed)∧w'.cell? ⟨wr.heap.size,2,none⟩=some (.slice ap r.parts.length cp)) 11 (by kernel_rfl) ?_
     obtain⟨wd,hWd⟩:∃x:World,x=w2.drew:=⟨_,rfl⟩
     rw [←hWd]
     have GD:Grow w2 wd:=by rw [hWd];exact(Grow.refl _).drew
     have zD:w2.heap.size=wd.heap.size:=by rw [hWd];rfl
     have ZD:=η zD
     clear hWd zD
     refine bLm [0,1,2,3,4,5] 8 (by kernel_rfl) (fun _ _ _ _ _ h=>h) (HS.o _ (grownBy_of_grow GD _)) ?_
     repeat (refine tNm (v:=?_) rfl (by rfl) ?_ ?_;rotate_left;(· (intro w' hSw;(try dsimp only at hSw);obtain⟨hs0,hs1,hs2⟩:=hSw;go_simp<;>with_reducible rfl));try simp only [Act.put,lzA,lzB,lzC,lzD,lzE,lzF])
     refine tEm ?_
     refine bO 6 (by kernel_rfl) rfl ?_
     intro K HK
     try simp only [lzA,lzB,lzC]
     go_simp
     go_at_call 29
     refine(HCL.o _ (HG2.o.trans GD)).mono ?_
     rintro e w3 ⟨v3,rfl,ho3,hb3⟩
     obtain⟨a3,c3,rfl⟩:=owns_form ho3
     have HO3:=η ho3
     have G3:=GD.trans hb3
     clear ho3 hb3
     refine HK.o _ _ ⟨fun _=>HS.o _ (grownBy_of_grow G3 _),?_⟩
     clear HK K
     try simp only [Act.put,lzA,lzB,lzC,lzD,lzE,lzF]
     refine bO 7 (by kernel_rfl) rfl ?_
     intro K HK
     try simp only [lzA,lzB,lzC]
     go_simp
     refine HK.o _ _ ⟨fun _=>HS.o _ (grownBy_of_grow G3 _),?_⟩
     clear HK K
     try simp only [Act.put,lzA,lzB,lzC,lzD,lzE,lzF]
     refine bO 8 (by kernel_rfl) rfl ?_
     intro K HK
     try simp only [lzA,lzB,lzC]
     go_simp
     refine HK.o _ _ ⟨fun _=>HS.o _ (grownBy_of_grow (G3.alloc _) _),?_⟩
     clear HK K
     try simp only [Act.put,lzA,lzB,lzC,lzD,lzE,lzF]
     refine bO 9 (by kernel_rfl) rfl ?_
     intro K HK
     refine wanted_go rfl ?_
     try simp only [lzA,lzB,lzC]
     have bA:=HB2.o.later (w':=(w3.alloc (.cells #[.int .i64 r.deed,.slice a3 r.parts.length c3] 77))) (G3.alloc _)
     have hR9:Ty.rd.R (hmem w w1 (w3.alloc (.cells #[.int .i64 r.deed,.slice a3 r.parts.length c3] 77)) (.slice (some ⟨gl,0,none⟩) l.length cl) (.slice ar h.ready.length cr) (.slice ad h.done.length cd)) (#[.int .i64 r.deed,.slice a3 r.parts.length c3]:Array Value).toList ⟨r.deed,r.parts⟩:=by
      refine⟨_,rfl,HI.o.2.1,pts_fr (w1:=wd) ((HO3.o).kept (grownBy_of_grow ((Grow.refl _).alloc _) none) (by cases (Value.slice a3 r.parts.length c3).ownBlock<;>simp)) HI.o.2.2 (by have:=HB2.o.grow.size;have:=GD.size;omega) fun q hq=>?_⟩
      have z1:=HB2.o.ready.lt
      have z2:=HB2.o.log.lt
      have z3:=HB2.o.done.lt
      have z4:=HB2.o.size
      have z5:=HB2.o.w1
      have z6:=GD.size
      simp only [List.mem_cons,List.not_mem_nil,or_false,not_or]
      exact⟨fun e=>by have:=(z2 q e.symm).2;omega,fun e=>by have:=(z1 q e.symm).2;omega,fun e=>by have:=(z3 q e.symm).2;omega,fun e=>by have:=Option.some.inj e;omega,fun e=>by have:=Option.some.inj e;omega⟩
     have HR9:=η hR9
     have HBA:=η bA
     clear hR9 bA
     refine wp_appc (c:=(hmem w w1 (w3.alloc (.cells #[.int .i64 r.deed,.slice a3 r.parts.length c3] 77)) (.slice (some ⟨gl,0,none⟩) l.length cl) (.slice ar h.ready.length cr) (.slice ad h.done.length cd))) (base:=w1.heap.size+1) (l:=h.ready) (m:=[⟨r.deed,r.parts⟩]) ei_rd rfl one_Trd (by decide) (.tmp 31) (.tmp 38) rfl rfl HBA.o.ready rfl (Src.of_new (T:=Ty.rd) (cs:=#[.int .i64 r.deed,.slice a3 r.parts.length c3]) HR9.o _ _ rfl) (by have:=HRL.o;simp;omega) HBA.o.size ?_
     intro a9 c9 w9 ho9 hg9 hb9
     have HO9:=η ho9
     have HG9:=η hg9
     have HB9:=η hb9
     have GB9:=η (grownBy_trans (grownBy_of_grow (G3.alloc _) _) hg9)
     obtain⟨t5,-,-⟩:=HS.o _ GB9.o
     have tf:∀o,w9.frozen? ⟨w1.heap.size,o,none⟩=false:=row_free (row_by HBA.o.row hg9 (fun e=>n3 e.symm))
     have t9:w1.heap.size<w9.heap.size:=World.block_lt_of_cell? w9 _ t5
     clear ho9 hg9 hb9
     refine HK.o _ _ ⟨fun _=>HS.o _ GB9.o,?_⟩
     clear HK K
     try simp only [Act.put,lzD,lzE,lzF]
     refine bO 10 (by kernel_rfl) rfl ?_
     intro K HK
     try simp only [lzA,lzB,lzC]
     go_simp
     refine HK.o _ _ ⟨fun _=>HS.o _ GB9.o,?_⟩
     clear HK K
     try simp only [Act.put,lzA,lzB,lzC,lzD,lzE,lzF]
     refine bO 11 (by kernel_rfl) rfl ?_
     intro K HK
     try simp only [lzA,lzB,lzC]
     go_simp
     refine HK.o _ _ ⟨fun h=>absurd rfl h,?_⟩
     clear HK K
     try simp only [Act.put,lzA,lzB,lzC,lzD,lzE,lzF]
     refine but_done (by kernel_rfl) ?_
     have HX:=LBox.appR HB2.o (G3.alloc _) HO9.o HG9.o (HB9.o.imp_right fun⟨g,e,hge⟩=>⟨g,e,by simpa using hge⟩)
     go_wp2
     go_roundw
     case rel=>exact⟨k+1,_,_,_,by omega,by go_num,HFO.o,HX.1,HOK.o⟩
     case measure=>simp [intOf];omega
    ·rw [if_neg k1] at hst
     have HFO:=η (HTK.o.trans hst)
     have HOK:=η (hst▸HOK1.o)
     have b1:(r.kind==1)=false:=by simp [k1]
     clear hst
     by_cases k2:r.kind=2
     ·have b2:(r.kind==2)=true:=by simp [k2]
      have b3:(r.kind==3)=false:=by simp [k2]
      clear k1 k2
      go_wp2
      go_roundw
      case rel=>exact⟨k+1,_,_,_,by omega,by go_num,HFO.o,HB2.o,HOK.o⟩
      case measure=>simp [intOf];omega
     ·have b2:(r.kind==2)=false:=by simp [k2]
      by_cases k3:r.kind=3
      ·have b3:(r.kind==3)=true:=by simp [k3]
       clear k1 k2 k3
       go_wp2
       go_roundw
       case rel=>exact⟨k+1,_,_,_,by omega,by go_num,HFO.o,HB2.o,HOK.o⟩
       case measure=>simp [intOf];omega
      ·have b3:(r.kind==3)=false:=by simp [k3]
       clear k1 k2 k3
       go_wp2
       go_roundw
       case rel=>exact⟨k+1,_,_,_,by omega,by go_num,HFO.o,HB2.o,HOK.o⟩
       case measure=>simp [intOf];omega
   |some i=>
    have hid:idxOf (isD r.deed) h.ready=(i:Int):=by unfold idxOf;rw [hix]
    obtain⟨hi,hst⟩:=step_idx_some hix
    rw [hid]
    clear hix hid
    obtain⟨gr,csx,rfl,⟨vx,rfl,-,hX⟩,hAx⟩:=HB2.o.ready.get (by decide) i hi
    have hX':=hX.mono (fr_sub _ _ _)
    obtain⟨ax,cx,rfl,-⟩:=id hX'
    have x1:=hAx 1 _ rfl
    simp only [Ty.rd] at x1
    have HDO:=η (fun(W:World) (hW:Grow w2 W)=>part_do (s:=h.sums) W (hX'.mono hW.sub) (HKEYS.o _ (List.getElem_mem hi)))
    have HII:=η hi
    have hib:i<3518437208883:=by have:=HRL.o;omega
    have gr9:gr<w2.heap.size:=World.block_lt_of_cell? w2 _ x1
    clear hX hX' hAx
    by_cases k2:r.kind=2
    ·have b1:(r.kind==1)=false:=by simp [k2]
     have b2:(r.kind==2)=true:=by simp [k2]
     rw [if_pos k2] at hst
     have HFO:=η (HTK.o.trans hst)
     have HOK:=η (hst▸HOK1.o)
     clear hst k2
     generalize h.ready[i]=x at*
     have HS:Hid (∀W,Grow w2 W→W.cell? ⟨w1.heap.size,1,none⟩=some (.int .i64 h.sums.a)∧W.cell? ⟨w1.heap.size,2,none⟩=some (.int .i64 h.sums.b)∧W.cell? ⟨w1.heap.size,3,none⟩=some (.int .i64 h.sums.c)∧W.cell? ⟨w1.heap.size,4,none⟩=some (.int .i64 h.sums.d)∧W.cell? ⟨w1.heap.size,5,none⟩=some (.slice (some ⟨gr,0,none⟩) h.ready.length cr)∧W.cell? ⟨gr,i*2+1,none⟩=some (.slice ax x.parts.length cx)):=fun W hW=>⟨hW.sub _ _ s1,hW.sub _ _ s2,hW.sub _ _ s3,hW.sub _ _ s4,hW.sub _ _ s5,hW.sub _ _ x1⟩
     go_wp2
     clear s0 s1 s2 s3 s4 s5 s6 q0 q1 q2
     refine but_start (fun w'=>w'.cell? ⟨w1.heap.size,1,none⟩=some (.int .i64 h.sums.a)∧w'.cell? ⟨w1.heap.size,2,none⟩=some (.int .i64 h.sums.b)∧w'.cell? ⟨w1.heap.size,3,none⟩=some (.int .i64 h.sums.c)∧w'.cell? ⟨w1.heap.size,4,none⟩=some (.int .i64 h.sums.d)∧w'.cell? ⟨w1.heap.size,5,none⟩=some (.slice (some ⟨gr,0,none⟩) h.ready.length cr)∧w'.cell? ⟨gr,i*2+1,none⟩=some (.slice ax x.parts.length cx)) 10 (by kernel_rfl) ?_
     obtain⟨wd,hWd⟩:∃x:World,x=w2.drew:=⟨_,rfl⟩
     rw [←hWd]
     have GD:Grow w2 wd:=by rw [hWd];exact(Grow.refl _).drew
     have zD:w2.heap.size=wd.heap.size:=by rw [hWd];rfl
     have ZD:=η zD
     clear hWd zD
     refine bLm [0,1,2,3,4,5,6,7] 8 (by kernel_rfl) (fun _ _ _ _ _ h=>h) (HS.o _ GD) ?_
     repeat (refine tNm (v:=?_) rfl (by rfl) ?_ ?_;rotate_left;(· (intro w' hSw;(try dsimp only at hSw);obtain⟨hs0,hs1,hs2,hs3,hs4,hs5⟩:=hSw;go_simp<;>with_reducible rfl));try simp only [Act.put,lzA,lzB,lzC,lzD,lzE,lzF])
     refine tEm ?_
     refine bO 8 (by kernel_rfl) rfl ?_
     intro K HK
     try simp only [lzA,lzB,lzC]
     go_simp
     go_at_call 54
     refine(HDO.o _ GD).mono ?_
     rintro e w3 ⟨rfl,hb3⟩
     have G3:=GD.trans hb3
     clear hb3
     obtain⟨u1,u2,u3,u4,-,-⟩:=HS.o _ G3
     have uf:∀o,w3.frozen? ⟨w1.heap.size,o,none⟩=false:=row_free (row_grow HB2.o.row G3)
     have u9:w1.heap.size<w3.heap.size:=World.block_lt_of_cell? w3 _ u1
     refine HK.o _ _ ⟨fun _=>HS.o _ G3,?_⟩
     clear HK K
     try simp only [Act.put,lzA,lzB,lzC,lzD,lzE,lzF]
     refine bO 9 (by kernel_rfl) rfl ?_
     intro K HK
     try simp only [lzA,lzB,lzC]
     go_simp
     refine HK.o _ _ ⟨fun _=>HS.o _ G3,?_⟩
     clear HK K
     try simp only [Act.put,lzA,lzB,lzC,lzD,lzE,lzF]
     refine bO 10 (by kernel_rfl) rfl ?_
     intro K HK
     try simp only [lzA,lzB,lzC]
     go_simp
     refine HK.o _ _ ⟨fun h=>absurd rfl h,?_⟩
     clear HK K
     try simp only [Act.put,lzA,lzB,lzC,lzD,lzE,lzF]
     refine but_done (by kernel_rfl) ?_
     obtain⟨bs,cs4⟩:=LBox.sum (s:=doP h.sums x.parts) HB2.o G3
     have r5:((((w3.setCell ⟨w1.heap.size,1,none⟩ (.int .i64 (doP h.sums x.parts).a)).setCell ⟨w1.heap.size,2,none⟩ (.int .i64 (doP h.sums x.parts).b)).setCell ⟨w1.heap.size,3,none⟩ (.int .i64 (doP h.sums x.parts).c)).setCell ⟨w1.heap.size,4,none⟩ (.int .i64 (doP h.sums x.parts).d)).heap[wr.heap.size]? =some (.cells #[.int .i64 r.kind,.int .i64 r.deed,.slice ap r.parts.length cp] 81 (0,0)):=by rw [cs4.block _ (γ HR5.o) (by have:=HB2.o.size;have:=HSZ.o;omega) (fun e=>by have:=HLT.o _ e;omega) (fun e=>by have:=HLD.o _ e;omega)];exact HR5.o
     clear u1 u2 u3 u4 uf u9
     generalize ((((w3.setCell ⟨w1.heap.size,1,none⟩ (.int .i64 (doP h.sums x.parts).a)).setCell ⟨w1.heap.size,2,none⟩ (.int .i64 (doP h.sums x.parts).b)).setCell ⟨w1.heap.size,3,none⟩ (.int .i64 (doP h.sums x.parts).c)).setCell ⟨w1.heap.size,4,none⟩ (.int .i64 (doP h.sums x.parts).d))=w4 at*
     have HB4:=η bs
     have HR54:=η r5
     clear bs cs4 r5
     obtain⟨s0,s1,s2,s3,s4,s5,s6⟩:=cells7 HB4.o.row
     have sf:=row_free HB4.o.row
     have s9:w1.heap.size<w4.heap.size:=(γ HB4.o.row)
     obtain⟨q0,q1,q2⟩:=cells3 HR54.o
     have q9:wr.heap.size<w4.heap.size:=(γ HR54.o)
     dsimp only at s0 s1 s2 s3 s4 s5 s6
     go_wp2_with (first|(at_builtin;refine wpList_appc (c:=fun _=>none) (base:=w1.heap.size+1) (l:=h.done) (m:=[r.deed]) ei_int rfl one_Tint (by decide) rfl (.tmp 60) (.tmp 63) rfl rfl ?own rfl (Src.of_new (T:=Ty.int) (cs:=#[.int .i64 r.deed]) ⟨rfl,HI.o.2.1⟩ _ _ ?d1) ?d2 ?d3 ?_))
     case own=>exact(OwnC.ints HB4.o.done HINT.o).grow ((Grow.refl _).alloc _)
     case d1=>rfl
     case d2=>have:=HDL.o;simp;omega
     case d3=>have:=HB4.o.size;simp;omega
     intro a5 c5 w5 ho5 hg5 hb5
     obtain⟨bd,cd5⟩:=LBox.appD (x:=r.deed) HB4.o ((Grow.refl w4).alloc (.cells #[.int .i64 r.deed] 3)) (ints_back ho5) hg5 (hb5.imp_right fun⟨g,e,hge⟩=>⟨g,e,by simpa using hge⟩)
     have HBD:=η bd
     have HCD:=η cd5
     have t6:w5.heap[w1.heap.size]? =_:=row_by (row_grow HB4.o.row ((Grow.refl w4).alloc (.cells #[.int .i64 r.deed] 3))) hg5 (fun e=>by have:=(HB4.o.done.lt _ e.symm).1;omega)
     clear bd cd5 s0 s1 s2 s3 s4 s5 s6 sf q0 q1 q2
     obtain⟨s0,s1,s2,s3,s4,s5,s6⟩:=cells7 t6
     have sf:=row_free t6
     have s8:w1.heap.size<w5.heap.size:=(γ t6)
     dsimp only at s0 s1 s2 s3 s4 s5 s6
     clear t6 ho5 hg5 hb5
     go_wp2_with fail
     generalize w5.setCell ⟨w1.heap.size,6,none⟩ (.slice a5 (h.done.length+1) c5)=w6 at*
     obtain⟨css,k1,k2,k3⟩:=HBD.o.ready
     have h1c:∀u∈css.flatten,u.oneCell'=true:=by
      intro u hu
      obtain⟨cs,hcs,huc⟩:=List.mem_flatten.1 hu
      obtain⟨j,hj,rfl⟩:=List.mem_iff_getElem.1 hcs
      exact one_Trd _ _ _ (k3 j css[j] _ (by simp) (List.getElem?_eq_getElem (by omega))) u huc
     have HK1:=η k1
     have HK2:=η k2
     have HK3:=η k3
     have H1C:=η h1c
     clear k1 k2 k3 h1c
     refine(delete_rd (i:=i) HK1.o HII.o H1C.o).mono ?_
     rintro e w7 ⟨rfl,ho7,hg7⟩
     have t7:=row_by HBD.o.row hg7 (fun e=>by have:=(HBD.o.ready.lt gr rfl).1;have:=Option.some.inj e;omega)
     obtain⟨u0,u1,u2,u3,u4,u5,u6⟩:=cells7 t7
     have uf:=row_free t7
     have u9:w1.heap.size<w7.heap.size:=(γ t7)
     have HX:=η (LBox.delR (h:={ h with sums:=doP h.sums x.parts,done:=h.done++ [r.deed] }) HBD.o (Grow.refl _) HII.o HK2.o HK3.o ho7 hg7)
     clear t7 ho7 hg7
     go_wp2
     go_roundw
     case rel=>exact⟨k+1,_,_,_,by omega,by go_num,HFO.o,HX.o.1,HOK.o⟩
     case measure=>simp [intOf];omega
    ·have b2:(r.kind==2)=false:=by simp [k2]
     rw [if_neg k2] at hst
     by_cases k3:r.kind=3
     ·have b1:(r.kind==1)=false:=by simp [k3]
      have b3:(r.kind==3)=true:=by simp [k3]
      rw [if_pos k3] at hst
      have HFO:=η (HTK.o.trans hst)
      have HOK:=η (hst▸HOK1.o)
      clear hst k2 k3
      go_wp2_with fail
      obtain⟨css,k1,k2,k3⟩:=HB2.o.ready
      have h1c:∀u∈css.flatten,u.oneCell'=true:=by
       intro u hu
       obtain⟨cs,hcs,huc⟩:=List.mem_flatten.1 hu
       obtain⟨j,hj,rfl⟩:=List.mem_iff_getElem.1 hcs
       exact one_Trd _ _ _ (k3 j css[j] _ (by simp) (List.getElem?_eq_getElem (by omega))) u huc
      have HK1:=η k1
      have HK2:=η k2
      have HK3:=η k3
      have H1C:=η h1c
      clear k1 k2 k3 h1c
      refine(delete_rd (i:=i) HK1.o HII.o H1C.o).mono ?_
      rintro e w7 ⟨rfl,ho7,hg7⟩
      have t7:=row_by HB2.o.row hg7 (fun e=>by have:=(HB2.o.ready.lt gr rfl).1;have:=Option.some.inj e;omega)
      obtain⟨u0,u1,u2,u3,u4,u5,u6⟩:=cells7 t7
      have uf:=row_free t7
      have u9:w1.heap.size<w7.heap.size:=(γ t7)
      have HX:=η (LBox.delR HB2.o (Grow.refl _) HII.o HK2.o HK3.o ho7 hg7)
      clear t7 ho7 hg7
      go_wp2
      go_roundw
      case rel=>exact⟨k+1,_,_,_,by omega,by go_num,HFO.o,HX.o.1,HOK.o⟩
      case measure=>simp [intOf];omega
     ·have b3:(r.kind==3)=false:=by simp [k3]
      rw [if_neg k3] at hst
      have HFO:=η (HTK.o.trans hst)
      have HOK:=η (hst▸HOK1.o)
      by_cases k1:r.kind=1
      ·have b1:(r.kind==1)=true:=by simp [k1]
       clear hst k1 k2 k3
       go_wp2
       go_roundw
       case rel=>exact⟨k+1,_,_,_,by omega,by go_num,HFO.o,HB2.o,HOK.o⟩
       case measure=>simp [intOf];omega
      ·have b1:(r.kind==1)=false:=by simp [k1]
       clear hst k1 k2 k3
       go_wp2
       go_roundw
       case rel=>exact⟨k+1,_,_,_,by omega,by go_num,HFO.o,HB2.o,HOK.o⟩
       case measure=>simp [intOf];omega
  ·have HH:Hid (h=houseR l):=by show h=_;rw [←HFD.o,List.take_of_length_le (by omega)];rfl
   obtain⟨s0,s1,s2,s3,s4,s5,s6⟩:=cells7 hbox.row
   clear hfold hok hbox
   go_wp2_with (first|(refine wpList_store_row rfl (.tmp 2) (.tmp 89) rfl rfl rfl HBX.o.res info_hs rfl rfl ?_))
   intro wf r2 g2
   obtain⟨p0,p1,p2,p3,p4,p5,p6⟩:=cells7 r2
   have pf:=row_free r2
   clear s0 s1 s2 s3 s4 s5 s6
   go_wp2
   refine bodyPost_ret (v:=.agg #[.slice al l.length cl,.int .i64 h.sums.a,.int .i64 h.sums.b,.int .i64 h.sums.c,.int .i64 h.sums.d,.slice ar h.ready.length cr,.slice ad h.done.length cd]) (by simp [results,Tryz.results35,go_sem,p0,p1,p2,p3,p4,p5,p6]) rfl ?_
   have hlog:h.log=l:=by rw [HH.o];exact log_house l
   have sub:Sub (hmem w w1 wr (.slice al l.length cl) (.slice ar h.ready.length cr) (.slice ad h.done.length cd)) (ov (fun _=>none) w wf):=fun a u e=>by
    unfold hmem fr at e
    split at e
    ·cases e
    ·rename_i hn
     have hne:a.block≠w.heap.size:=fun e=>hn (.inr (by simp [e]))
     rw [ov_new (by omega),by_cell g2 (World.block_lt_of_cell? wr a e) hne]
     exact e
   have hb:∀k,w.heap.size+1≤k→k<wr.heap.size→wf.heap[k]? =wr.heap[k]?:=fun k h1 h2=>g2.block k h2 (by simp;omega)
   have hw1:=HBX.o.w1
   have e1:=((HBX.o.log.mono sub).block fun k hk=>hb k (HBX.o.log.lt k hk).1 (HBX.o.log.lt k hk).2).slc (by decide) (Sub.refl _) fun a ha=>ov_new (by omega)
   have e2:=((HBX.o.ready.mono sub).block fun k hk=>hb k (by have:=(HBX.o.ready.lt k hk).1;omega) (HBX.o.ready.lt k hk).2).slc (by decide) (Sub.refl _) fun a ha=>ov_new (by omega)
   have e3:=(OwnC.ints (c:=ov (fun _=>none) w wf) (owns_block HBX.o.done fun k hk=>hb k (by have:=(HBX.o.done.lt k hk).1;omega) (HBX.o.done.lt k hk).2) HOK0.o.ints).slc (by decide) (Sub.refl _) fun a ha=>ov_new (by omega)
   have hs:=HOK0.o.sums
   rw [←HH.o]
   refine⟨_,rfl,⟨_,rfl,_,_,_,rfl,?_,hs.1,hs.2.1,hs.2.2.1,hs.2.2.2,e2,e3⟩,HBX.o.grow.grown g2 (fun k hk=>by simp at hk;omega)⟩
   rw [hlog];exact e1
theorem flat_ints (l:List Int):l.flatMap intCell=l.map (Value.int .i64):=by
 induction l with
 |nil=>rfl
 |cons x l ih=>rw [List.flatMap_cons,ih];rfl
theorem own_sort {w:World} {base:Nat} {v:Value} {l:List Int} (h:w.ownsRow base 3 1 v l.length (l.flatMap intCell)) (hne:l≠ []) (hs:l.length<4611686018427387904):
  ∃g,v.ownBlock=some g∧base≤g∧Calls Tryz.prog 49 #[v] w fun e w'=>e=.returned (.tuple #[])∧w'.ownsRow base 3 1 v (l.mergeSort fun x y=>decide (x≤y)).length ((l.mergeSort fun x y=>decide (x≤y)).flatMap intCell)∧w.grownBy w' (some g):=by
 obtain⟨hl,⟨rfl,hn⟩|⟨g,cap,cur,rfl,hg,hrow,hnc,hcm,hcs,htake⟩⟩:=h
 ·exact absurd (List.eq_nil_of_length_eq_zero hn) hne
 ·have ht:cur.toList.take l.length=l.map (Value.int .i64):=by rw [←flat_ints,←htake,Nat.mul_one]
  refine⟨g,rfl,hg,(Tryz.slices_Sort_int g 0 cap l w (holds_of_blockI hrow ht) (γ hrow) hs).mono fun e w' ⟨he,n,os,hw⟩=>⟨he,?_,?_⟩⟩
  ·have e:(l.mergeSort fun x y=>decide (x≤y)).length=l.length:=List.length_mergeSort _
   rw [hw,flat_ints,e]
   exact ownsRow_sortedI e hg hrow hnc hcm hcs
  ·rw [hw]
   exact grownBy_sortedI _
theorem dedup_snoc:∀(l:List Pt) (had:List Int) (p:Pt),dedupE had (l++ [p])=if p.h∈dedupE had l then dedupE had l else dedupE had l++ [p.h]
 | [],had,p=>rfl
 |q::l,had,p=>by rw [List.cons_append,dedupE,dedupE,dedup_snoc l]
theorem dedup_ok {l:List Pt} (h:∀p∈l,I64 p.h):∀x∈dedupE [] l,I64 x:=fun x hx=>by
 rcases dedup_mem.1 hx with h0|⟨p,hp,rfl⟩
 ·simp at h0
 ·exact h p hp
theorem dedup_ne {l:List Pt} (h:l≠ []):dedupE [] l≠ []:=by
 intro e
 cases l with
 |nil=>exact h rfl
 |cons p l=>
  have:p.h∈dedupE [] (p::l):=dedup_mem.2 (.inr ⟨p,List.mem_cons_self,rfl⟩)
  rw [e] at this
  simp at this
set_option maxRecDepth 100000 in
set_option maxHeartbeats 1000000 in
theorem part_houses {v:Value} {l:List Pt} (w:World) (hv:Pts w.cell? v l) (hm:l.length*24≤140737488355328) (hne:l≠ []) (hp:∀p∈l,0≤p.h∧p.h<3):
  Calls Tryz.prog 47 #[v] w fun e w'=>∃v',e=.returned v'∧w'.ownsRow w.heap.size 3 1 v' (housesE l).length ((housesE l).flatMap intCell)∧Grow w w':=by
 have hok:=Pts.ok hv
 have HOK:=η (fun k=>dedup_ok (l:=l.take k) fun p hp=>(hok p (List.mem_of_mem_take hp)).1)
 have HNE:=η (dedup_ne hne)
 have HSO:=η (houses_sort hp)
 have HM:=η hm
 obtain⟨a,cap,rfl,h1,h2,-,hel⟩:=hv
 unfold maxLen at h2
 clear hok hp hne hm
 go_enter Tryz.func47,Tryz.ntmps47
 go_wp2
 go_loopw [3,8] (fun v i wr=>∃k:Nat,k≤l.length∧i=.int .i64 k∧Grow w wr∧wr.ownsRow w.heap.size 3 1 v (dedupE [] (l.take k)).length ((dedupE [] (l.take k)).flatMap intCell)) (fun _ i _=>l.length - (intOf i).toNat)
 case atStart=>exact⟨0,by omega,rfl,Grow.refl _,World.ownsRow_nil _ _ _ _⟩
 case round=>
  obtain⟨k,hk',rfl,hb,hown⟩:=hrel
  obtain⟨a1,c1,rfl⟩:=owns_form hown
  by_cases hlt:k<l.length
  ·obtain⟨b,o,rfl,c0,d1,d2,-,-,-⟩:=Pts.at_ hel k hlt
   replace c0:=hb.sub _ _ c0
   replace d1:=hb.sub _ _ d1
   replace d2:=hb.sub _ _ d2
   have hD:dedupE [] (l.take (k+1))=if l[k].h∈dedupE [] (l.take k) then dedupE [] (l.take k) else dedupE [] (l.take k)++ [l[k].h]:=by
    rw [List.take_succ_eq_append_getElem hlt,dedup_snoc]
   have HD:=η hD
   have hle:(dedupE [] (l.take k)).length≤k:=by have:=dedup_len (l.take k) [];simp at this;omega
   have HIN:=η (fun(W:World) (hW:Grow wr W)=>contains_int (n:=l[k].h) W ((Ints.of_own hown (HOK.o k)).mono hW.sub))
   have HOW:=η hown
   have HB:=η hb
   clear hel hown hD hb
   generalize dedupE [] (l.take k)=acc at*
   generalize l[k]=p at*
   obtain⟨ph,pk,pn⟩:=p
   simp only at c0 d1 d2
   go_wp2_with fail
   refine(HIN.o _ ((Grow.refl wr).alloc _)).mono ?_
   by_cases hin:ph∈acc
   ·rw [decide_eq_true hin]
    rintro e w3 ⟨rfl,hb3⟩
    have HB3:=η ((HB.o.alloc _).trans hb3)
    have HO3:=η (owns_grow HOW.o (((Grow.refl wr).alloc _).trans hb3))
    have HI:=η hin
    clear hb3 hin
    go_wp2
    go_roundw
    case rel=>exact⟨k+1,by omega,by go_num,HB3.o,by rw [HD.o,if_pos HI.o];exact HO3.o⟩
    case measure=>simp [intOf];omega
   ·rw [decide_eq_false hin]
    rintro e w3 ⟨rfl,hb3⟩
    have R3:=η (row_grow (row_new wr (.cells #[.int .i64 ph,.int .i64 pk,.int .i64 pn] 31)) hb3)
    have HB3:=η ((HB.o.alloc (.cells #[.int .i64 ph,.int .i64 pk,.int .i64 pn] 31)).trans hb3)
    have HO3:=η (owns_grow HOW.o (((Grow.refl wr).alloc _).trans hb3))
    have HI:=η hin
    clear hb3 hin
    obtain⟨q0,q1,q2⟩:=cells3 R3.o
    have zq:wr.heap.size<w3.heap.size:=(γ R3.o)
    go_wp2_with (at_builtin;refine app1 ei_int rfl _ _ rfl HB3.o rfl HO3.o rfl (by simp) rfl (by simp [Value.oneCell']) (by have:=HM.o;omega) (by decide) ?_;intro v' w' hown' hb' _)
    go_roundw
    case rel=>exact⟨k+1,by omega,by go_num,hb',by rw [HD.o,if_neg HI.o];simpa [intCell] using hown'⟩
    case measure=>simp [intOf];omega
  ·have hk2:k=l.length:=by omega
   rw [List.take_of_length_le (by omega)] at hown
   have hln:(dedupE [] l).length≤l.length:=by have:=dedup_len l [];simp at this;omega
   obtain⟨g,hg1,hg2,hc⟩:=own_sort hown HNE.o (by have:=HM.o;omega)
   rw [HSO.o] at hc
   have HC:=η hc
   have HB:=η hb
   clear hel hc hown hb
   go_wp2_with fail
   refine HC.o.mono ?_
   rintro e w3 ⟨rfl,hown3,hg3⟩
   have HO3:=η hown3
   have HG3:Hid (Grow w w3):=η (HB.o.grown hg3 fun k hk=>by obtain rfl:=Option.some.inj hk;exact hg2)
   clear hown3 hg3
   go_wp2
   go_ret
   exact⟨_,rfl,HO3.o,HG3.o⟩
end Go.Proofs.YthfgeelcbcgahaaGreatDoor
namespace Go.Proofs.YthfgeelcbcgahaaGreatDoor
def partBytes (p:Pt):List UInt8:=numB p.k++numB p.n
def msgHead (m:Ms):List UInt8:=UInt8.ofNat m.kind.toNat::(numB m.deed++(numB m.house++(numB m.parts.length++m.parts.flatMap partBytes)))
def sealB (b:List UInt8):List UInt8:=b++ [UInt8.ofNat (sumB b/256),UInt8.ofNat (sumB b)]
def bytesM (m:Ms):List UInt8:=sealB (msgHead m)
def ms0:Ms:=⟨0,0,0,[]⟩
def getN:Nat→List UInt8→Sum (List Int×List UInt8) Int
 |0,b=>.inl ([],b)
 |n+1,b=>if(getB b).2.2=0 then(match getN n (b.drop (getB b).2.1.toNat) with
   | .inl (xs,r)=>.inl ((getB b).1::xs,r)
   | .inr e=>.inr e) else .inr (getB b).2.2
def pairs (h:Int):List Int→List Pt
 |k::n::l=>⟨h,k,n⟩::pairs h l
 |_=>[]
def nums (l:List Pt):List Int:=l.flatMap fun p=>[p.k,p.n]
def readBody (kind:Int) (l:List UInt8):Ms×Int:=
 match getN 3 l with
 | .inr e=>(ms0,e)
 | .inl (xs,r)=>
  if xs.getD 2 0<0∨4<xs.getD 2 0 then(ms0,5) else
  match getN (2*(xs.getD 2 0).toNat) r with
  | .inr e=>(ms0,e)
  | .inl (ys,r')=>if r'≠ [] then(ms0,2) else
   if wrongM ⟨kind,xs.getD 0 0,xs.getD 1 0,pairs (xs.getD 1 0) ys⟩=0 then(⟨kind,xs.getD 0 0,xs.getD 1 0,pairs (xs.getD 1 0) ys⟩,0)
   else(ms0,wrongM ⟨kind,xs.getD 0 0,xs.getD 1 0,pairs (xs.getD 1 0) ys⟩)
def sumOk (b:List UInt8):Bool:=decide (sumB (b.take (b.length - 2))=256*(b.getD (b.length - 2) 0).toNat+(b.getD (b.length - 1) 0).toNat)
def readB (b:List UInt8):Ms×Int:=
 if b.length<3 then(ms0,8) else if sumOk b=true then readBody ((b.getD 0 0).toNat:Nat) ((b.take (b.length - 2)).drop 1) else(ms0,7)
theorem getN_nums:∀(xs:List Int) (r:List UInt8),(∀x∈xs,zig x<128^6)→getN xs.length (xs.flatMap numB++r)=.inl (xs,r)
 | [],r,_=>rfl
 |x::xs,r,h=>by
  have h1:=get_num (n:=x) (xs.flatMap numB++r) (h x List.mem_cons_self)
  rw [List.flatMap_cons,List.append_assoc,List.length_cons,getN,h1]
  simp only [if_true,Int.toNat_natCast,List.drop_left]
  rw [getN_nums xs r fun y hy=>h y (List.mem_cons_of_mem _ hy)]
theorem nums_bytes:∀l:List Pt,l.flatMap partBytes=(nums l).flatMap numB
 | []=>rfl
 |p::l=>by
  show partBytes p++l.flatMap partBytes=([p.k,p.n]++nums l).flatMap numB
  rw [nums_bytes l,List.flatMap_append]
  simp [partBytes]
theorem nums_len:∀l:List Pt,(nums l).length=2*l.length
 | []=>rfl
 |p::l=>by
  show([p.k,p.n]++nums l).length=_
  rw [List.length_append,nums_len l];simp;omega
theorem pairs_nums {h:Int}:∀{l:List Pt},(∀p∈l,p.h=h)→pairs h (nums l)=l
 | [],_=>rfl
 |p::l,hp=>by
  show(⟨h,p.k,p.n⟩:Pt)::pairs h (nums l)=_
  rw [pairs_nums fun q hq=>hp q (List.mem_cons_of_mem _ hq),←hp p List.mem_cons_self]
theorem nums_pairs {h:Int}:∀(n:Nat) {ys:List Int},ys.length=2*n→nums (pairs h ys)=ys∧(pairs h ys).length=n
 |0,ys,hl=>by
  obtain rfl:ys=[]:=List.eq_nil_of_length_eq_zero (by omega)
  exact⟨rfl,rfl⟩
 |n+1,ys,hl=>by
  match ys,hl with
  | [],hl=>simp at hl
  | [x],hl=>simp at hl;omega
  |k::x::ys,hl=>
   obtain⟨e1,e2⟩:=nums_pairs (h:=h) n (ys:=ys) (by simp at hl;omega)
   refine⟨?_,?_⟩
   ·show [k,x]++nums (pairs h ys)=_
    rw [e1];rfl
   ·show(pairs h ys).length+1=_
    rw [e2]
theorem zig_lt {n:Int} (h1:-2199023255552<n) (h2:n<2199023255552):zig n<128^6:=by
 have:(128:Nat)^6=4398046511104:=by decide
 rw [this]
 unfold zig
 split<;>omega
theorem RightM.len {m:Ms} (h:RightM m):m.parts.length≤4:=by
 by_cases hk:m.kind=1
 ·exact(wrong_ok (h.parts hk).1).2.1
 ·rw [h.none hk];simp
theorem RightM.pts {m:Ms} (h:RightM m):∀p∈m.parts,p.h=m.house∧0≤p.k∧p.k<4∧p.n≤1048576∧-1048576≤p.n:=by
 by_cases hk:m.kind=1
 ·intro p hp
  have:=(wrong_ok (h.parts hk).1).2.2.1 p hp
  exact⟨(h.parts hk).2 p hp,this.2.2⟩
 ·rw [h.none hk];simp
theorem head_nums (m:Ms):msgHead m=UInt8.ofNat m.kind.toNat::([m.deed,m.house,(m.parts.length:Int)].flatMap numB++(nums m.parts).flatMap numB):=by
 unfold msgHead
 rw [nums_bytes]
 simp
theorem read_body {m:Ms} (h:RightM m) (hw:wrongM m=0):readBody m.kind ([m.deed,m.house,(m.parts.length:Int)].flatMap numB++(nums m.parts).flatMap numB)=(m,0):=by
 have hl:=h.len
 have h1:=getN_nums [m.deed,m.house,(m.parts.length:Int)] ((nums m.parts).flatMap numB) (by
  intro x hx
  have h1:=h.deed
  have h2:=h.house
  simp only [List.mem_cons,List.not_mem_nil,or_false] at hx
  rcases hx with rfl|rfl|rfl<;>exact zig_lt (by omega) (by omega))
 have h2:=getN_nums (nums m.parts) [] (by
  intro x hx
  obtain⟨p,hp,hx⟩:=List.mem_flatMap.1 hx
  have:=h.pts p hp
  simp only [List.mem_cons,List.not_mem_nil,or_false] at hx
  rcases hx with rfl|rfl<;>exact zig_lt (by omega) (by omega))
 rw [nums_len,List.append_nil] at h2
 unfold readBody
 rw [show(3:Nat)=[m.deed,m.house,(m.parts.length:Int)].length from rfl,h1]
 simp only [List.getD_cons_succ,List.getD_cons_zero]
 rw [if_neg (by omega),Int.toNat_natCast,h2]
 simp only [ne_eq,not_true,if_false]
 rw [pairs_nums fun p hp=>(h.pts p hp).1]
 show(if wrongM m=0 then(m,(0:Int)) else _)=_
 rw [if_pos hw]
theorem seal_len (b:List UInt8):(sealB b).length=b.length+2:=by simp [sealB]
theorem seal_ok (b:List UInt8):sumOk (sealB b)=true∧(sealB b).take ((sealB b).length - 2)=b:=by
 have hl:=seal_len b
 have ht:(sealB b).take ((sealB b).length - 2)=b:=by rw [hl];simp [sealB]
 refine⟨?_,ht⟩
 have hs:=sumB_lt b
 have e1:(sealB b).getD ((sealB b).length - 2) 0=UInt8.ofNat (sumB b/256):=by rw [hl];simp [sealB]
 have e2:(sealB b).getD ((sealB b).length - 1) 0=UInt8.ofNat (sumB b):=by
  rw [hl,show b.length+2 - 1=b.length+1 by omega]
  simp [sealB,List.getD_eq_getElem?_getD]
 unfold sumOk
 rw [ht,e1,e2,decide_eq_true_eq,ofNat_small (by omega),UInt8.toNat_ofNat']
 omega
theorem read_bytes {m:Ms} (hw:wrongM m=0):readB (bytesM m)=(m,0):=by
 have h:=right_m.1 hw
 obtain⟨h1,h2⟩:=seal_ok (msgHead m)
 unfold readB bytesM
 have hp:0<(msgHead m).length:=by unfold msgHead;simp
 rw [if_neg (by rw [seal_len];omega),if_pos h1,h2,head_nums]
 rw [List.drop_succ_cons,List.drop_zero]
 have e:((sealB (UInt8.ofNat m.kind.toNat::([m.deed,m.house,(m.parts.length:Int)].flatMap numB++(nums m.parts).flatMap numB))).getD 0 0)=UInt8.ofNat m.kind.toNat:=by
  unfold sealB;rw [List.cons_append];rfl
 have hk:=h.kind
 rw [e,ofNat_small (by omega),show((m.kind.toNat:Nat):Int)=m.kind by omega]
 exact read_body h hw
end Go.Proofs.YthfgeelcbcgahaaGreatDoor
namespace Go.Proofs.YthfgeelcbcgahaaGreatDoor
open Go.RowKit
theorem OwnB.grow {w w':World} {base:Nat} {v:Value} {b:List UInt8} (h:OwnB w base v b) (hg:Grow w w'):OwnB w' base v b:=owns_grow h hg
theorem OwnB.bts {w:World} {base:Nat} {v:Value} {b:List UInt8} (h:OwnB w base v b):Bts w.cell? v b:=Bts.of_own h
theorem MoreB.row {w w':World} {v v':Value} {B:Nat} {o:Obj} (h:MoreB w w' v v') (hr:w.heap[B]? =some o) (hne:∀k,v.ownBlock=some k→B≠k):w'.heap[B]? =some o:=
 row_by hr h.1 (fun e=>hne B e.symm rfl)
theorem numsB_len:∀{xs:List Int},(∀x∈xs,I64 x)→(xs.flatMap numB).length≤10*xs.length
 | [],_=>by simp
 |x::xs,h=>by
  obtain⟨h0,h1⟩:=i64_bounds (h x List.mem_cons_self)
  have h2:=numB_len h0 h1
  have h3:=numsB_len (xs:=xs) fun y hy=>h y (List.mem_cons_of_mem _ hy)
  rw [List.flatMap_cons,List.length_append,List.length_cons]
  omega
theorem flat_snoc {α:Type} (f:α→List UInt8) {l:List α} {k:Nat} (h:k<l.length):(l.take (k+1)).flatMap f=(l.take k).flatMap f++f l[k]:=by
 rw [List.take_succ_eq_append_getElem h,List.flatMap_append]
 simp
theorem i64_of {n:Int} (h1:-9223372036854775808≤n) (h2:n≤9223372036854775807):I64 n:=by
 unfold I64
 simp [Lit.wf,IntKind.min,IntKind.max,IntKind.signed,IntKind.bits];omega
theorem kind_byte {k:Int} (h:0≤k∧k<256):k=((UInt8.ofNat k.toNat).toNat:Int):=by
 rw [UInt8.toNat_ofNat']
 omega
theorem partBytes_len {p:Pt} (h1:I64 p.k) (h2:I64 p.n):(partBytes p).length≤20:=by
 unfold partBytes
 rw [List.length_append]
 have a:=numB_len (i64_bounds h1).1 (i64_bounds h1).2
 have b:=numB_len (i64_bounds h2).1 (i64_bounds h2).2
 omega
theorem partsBytes_len:∀{l:List Pt},PtsOk l→(l.flatMap partBytes).length≤20*l.length
 | [],_=>by simp
 |p::l,h=>by
  have h2:=partBytes_len (h p List.mem_cons_self).2.1 (h p List.mem_cons_self).2.2
  have h3:=partsBytes_len (l:=l) fun q hq=>h q (List.mem_cons_of_mem _ hq)
  rw [List.flatMap_cons,List.length_append,List.length_cons]
  omega
theorem two_bytes {x y:Int} {z1 z2:UInt8} (h1:x=(z1.toNat:Int)) (h2:y=(z2.toNat:Int)):[Value.int .u8 x,Value.int .u8 y]=[z1,z2].flatMap byteCell:=by
 rw [h1,h2];rfl
set_option maxRecDepth 100000 in
set_option maxHeartbeats 2000000 in
theorem wire_bytes {v:Value} {m:Ms} (w:World) (hv:Of Ty.ms w.cell? v m) (hk:0≤m.kind∧m.kind<256) (hl:m.parts.length≤4):
  Calls Tryz.prog 79 #[v] w fun e w'=>∃v',e=.returned v'∧OwnB w' w.heap.size v' (bytesM m)∧Grow w w':=by
 obtain⟨ap,cp,rfl⟩:=hv.ms_form
 obtain⟨hp,ik,id',ih⟩:=hv.ms_parts
 have hok:=Pts.ok hp
 have HKB:=η (kind_byte hk)
 have HI:Hid (∀x∈ [m.deed,m.house,(m.parts.length:Int)],I64 x):=fun x hx=>by
  simp only [List.mem_cons,List.not_mem_nil,or_false] at hx
  rcases hx with rfl|rfl|rfl
  ·exact id'
  ·exact ih
  ·exact i64_of (by omega) (by omega)
 have HNL:=η (fun k=>numsB_len (xs:=[m.deed,m.house,(m.parts.length:Int)].take k) fun x hx=>HI.o x (List.mem_of_mem_take hx))
 have HPL:=η (fun k=>partsBytes_len (l:=m.parts.take k) fun p hp=>hok p (List.mem_of_mem_take hp))
 have HB0:Hid (OwnB (((w.alloc (.cells #[.int .i64 m.kind,.int .i64 m.deed,.int .i64 m.house,.slice ap m.parts.length cp] 95)).alloc (.cells #[.int .u8 m.kind] 5)).alloc (.cells #[.int .i64 m.deed,.int .i64 m.house,.int .i64 m.parts.length] 3)) w.heap.size (.slice (some ⟨w.heap.size+1,0,none⟩) 1 1) [UInt8.ofNat m.kind.toNat]):=η (by
  have h:=World.ownsRow_lit (base:=w.heap.size) (e:=5) (size:=1) (w.alloc (.cells #[.int .i64 m.kind,.int .i64 m.deed,.int .i64 m.house,.slice ap m.parts.length cp] 95)) #[.int .u8 m.kind] 1 (by simp) (by decide) rfl
  have e:(#[.int .u8 m.kind]:Array Value).toList=[UInt8.ofNat m.kind.toNat].flatMap byteCell:=by
   show [Value.int .u8 m.kind]=[Value.int .u8 _]
   rw [←HKB.o]
  rw [e] at h
  have h2:=OwnB.grow (b:=[UInt8.ofNat m.kind.toNat]) h (w':=(((w.alloc (.cells #[.int .i64 m.kind,.int .i64 m.deed,.int .i64 m.house,.slice ap m.parts.length cp] 95)).alloc (.cells #[.int .u8 m.kind] 5)).alloc (.cells #[.int .i64 m.deed,.int .i64 m.house,.int .i64 m.parts.length] 3))) ((Grow.refl _).alloc _)
  simpa using h2)
 have HR0:Hid ((((w.alloc (.cells #[.int .i64 m.kind,.int .i64 m.deed,.int .i64 m.house,.slice ap m.parts.length cp] 95)).alloc (.cells #[.int .u8 m.kind] 5)).alloc (.cells #[.int .i64 m.deed,.int .i64 m.house,.int .i64 m.parts.length] 3)).heap[w.heap.size]? =some (.cells #[.int .i64 m.kind,.int .i64 m.deed,.int .i64 m.house,.slice ap m.parts.length cp] 95 (0,0))):=η (heap_later (heap_later (row_new _ _) _) _)
 have HR2:Hid ((((w.alloc (.cells #[.int .i64 m.kind,.int .i64 m.deed,.int .i64 m.house,.slice ap m.parts.length cp] 95)).alloc (.cells #[.int .u8 m.kind] 5)).alloc (.cells #[.int .i64 m.deed,.int .i64 m.house,.int .i64 m.parts.length] 3)).heap[w.heap.size+1+1]? =some (.cells #[.int .i64 m.deed,.int .i64 m.house,.int .i64 m.parts.length] 3 (0,0))):=η (by simpa using row_new ((w.alloc (.cells #[.int .i64 m.kind,.int .i64 m.deed,.int .i64 m.house,.slice ap m.parts.length cp] 95)).alloc (.cells #[.int .u8 m.kind] 5)) (.cells #[.int .i64 m.deed,.int .i64 m.house,.int .i64 m.parts.length] 3))
 have HG3:Hid (Grow w (((w.alloc (.cells #[.int .i64 m.kind,.int .i64 m.deed,.int .i64 m.house,.slice ap m.parts.length cp] 95)).alloc (.cells #[.int .u8 m.kind] 5)).alloc (.cells #[.int .i64 m.deed,.int .i64 m.house,.int .i64 m.parts.length] 3))):=η ((((Grow.refl w).alloc _).alloc _).alloc _)
 have HSZ:Hid (w.heap.size+3≤((((w.alloc (.cells #[.int .i64 m.kind,.int .i64 m.deed,.int .i64 m.house,.slice ap m.parts.length cp] 95)).alloc (.cells #[.int .u8 m.kind] 5)).alloc (.cells #[.int .i64 m.deed,.int .i64 m.house,.int .i64 m.parts.length] 3))).heap.size):=η (by simp)
 have HEL:=η hp
 have HM:Hid (UInt8.ofNat m.kind.toNat::(([m.deed,m.house,(m.parts.length:Int)].flatMap numB)++m.parts.flatMap partBytes)=msgHead m):=η (by unfold msgHead;simp)
 obtain⟨hk0,hk1⟩:=hk
 clear hv ik id' ih hok
 go_enter Tryz.func79,Tryz.ntmps79
 go_wp2
 obtain⟨w3,hw3⟩:∃x:World,x=(((w.alloc (.cells #[.int .i64 m.kind,.int .i64 m.deed,.int .i64 m.house,.slice ap m.parts.length cp] 95)).alloc (.cells #[.int .u8 m.kind] 5)).alloc (.cells #[.int .i64 m.deed,.int .i64 m.house,.int .i64 m.parts.length] 3)):=⟨_,rfl⟩
 rw [←hw3] at HB0 HR0 HR2 HG3 HSZ ⊢
 clear hw3
 go_loopw [3,22] (fun bv i wr=>∃k:Nat,k≤3∧i=.int .i64 k∧OwnB wr w.heap.size bv (UInt8.ofNat m.kind.toNat::([m.deed,m.house,(m.parts.length:Int)].take k).flatMap numB)∧MoreB w3 wr (.slice (some ⟨w.heap.size+1,0,none⟩) 1 1) bv) (fun _ i _=>3 - (intOf i).toNat)
 case atStart=>exact⟨0,by omega,rfl,HB0.o,MoreB.refl _ _⟩
 case round=>
  obtain⟨k,hk',rfl,hown,hM⟩:=hrel
  obtain⟨a1,k1,rfl⟩:=owns_form hown
  have HO:=η hown
  have HMR:=η hM
  by_cases hlt:k<3
  ·obtain⟨x,hx⟩:∃x,[m.deed,m.house,(m.parts.length:Int)][k]? =some x:=⟨_,List.getElem?_eq_getElem hlt⟩
   have HX:=η (HI.o x (List.mem_of_getElem? hx))
   have HN:=η (show UInt8.ofNat m.kind.toNat::([m.deed,m.house,(m.parts.length:Int)].take (k+1)).flatMap numB=(UInt8.ofNat m.kind.toNat::([m.deed,m.house,(m.parts.length:Int)].take k).flatMap numB)++numB x by
    rw [flat_snoc numB hlt,List.cons_append]
    congr 2
    rw [List.getElem?_eq_getElem hlt] at hx
    exact congrArg numB (Option.some.inj hx))
   have r2:=hM.row HR2.o (fun q hq=>by
    obtain rfl:w.heap.size+1=q:=by simpa [Value.ownBlock] using hq
    omega)
   have hc:wr.cell? ⟨w.heap.size+1+1,k,none⟩=some (.int .i64 x):=by
    simp only [World.cell?,r2]
    match k,hlt,hx with
    |0,_,hx=>simp at hx ⊢;exact hx
    |1,_,hx=>simp at hx ⊢;exact hx
    |2,_,hx=>simp at hx ⊢;exact hx
   have hnl:=HNL.o k
   have hlk:([m.deed,m.house,(m.parts.length:Int)].take k).length≤3:=by rw [List.length_take];simp;omega
   have hlb:(UInt8.ofNat m.kind.toNat::([m.deed,m.house,(m.parts.length:Int)].take k).flatMap numB).length+10≤140737488355328:=by rw [List.length_cons];omega
   have HLB:=η hlb
   clear hown hM hx r2 hnl hlk hlb
   generalize UInt8.ofNat m.kind.toNat::([m.deed,m.house,(m.parts.length:Int)].take k).flatMap numB=pre at*
   go_wp2_with fail
   refine(wire_number (base:=w.heap.size) wr HO.o (by have:=HMR.o.1.size;have:=HSZ.o;omega) HX.o HLB.o).mono ?_
   rintro e w5 ⟨v5,rfl,ho5,hm5⟩
   have HO5:=η ho5
   have HM5:=η (HMR.o.trans hm5)
   clear ho5 hm5
   go_wp2
   go_roundw
   case rel=>exact⟨k+1,by omega,by go_num,by rw [HN.o];exact HO5.o,HM5.o⟩
   case measure=>simp [intOf];omega
  ·obtain rfl:k=3:=by omega
   rw [show((3:Nat):Int)=3 from rfl]
   have hb:Grow w wr:=hM.all HG3.o (fun q hq=>by
    obtain rfl:w.heap.size+1=q:=by simpa [Value.ownBlock] using hq
    omega)
   have r0:=hM.row HR0.o (fun q hq=>by
    obtain rfl:w.heap.size+1=q:=by simpa [Value.ownBlock] using hq
    omega)
   obtain⟨wo,rfl⟩:∃x:World,x=wr:=⟨_,rfl⟩
   obtain⟨c0,c1,c2,c3⟩:=cells4 r0
   have z0:w.heap.size<wo.heap.size:=(γ r0)
   have HBO:=η hb
   have hnl:=HNL.o 3
   have HBL:Hid ((UInt8.ofNat m.kind.toNat::([m.deed,m.house,(m.parts.length:Int)].take 3).flatMap numB).length≤31):=η (by rw [List.length_cons];have:([m.deed,m.house,(m.parts.length:Int)].take 3).length=3:=rfl;omega)
   have HM2:Hid ((UInt8.ofNat m.kind.toNat::([m.deed,m.house,(m.parts.length:Int)].take 3).flatMap numB)++m.parts.flatMap partBytes=msgHead m):=η (by rw [←HM.o];rfl)
   obtain⟨ap',cp',he,h1,h2,-,hel⟩:=HEL.o
   obtain⟨rfl,rfl⟩:ap=ap'∧cp=cp':=by simpa using he
   unfold maxLen at h2
   clear hown hM r0 hb hnl HMR he HM
   generalize UInt8.ofNat m.kind.toNat::([m.deed,m.house,(m.parts.length:Int)].take 3).flatMap numB=b0 at*
   go_wp2
   go_loopw [3,33] (fun bv i wr=>∃k:Nat,k≤m.parts.length∧i=.int .i64 k∧Grow w wr∧OwnB wr w.heap.size bv (b0++(m.parts.take k).flatMap partBytes)) (fun _ i _=>m.parts.length - (intOf i).toNat)
   case atStart=>exact⟨0,by omega,rfl,HBO.o,by simpa using HO.o⟩
   case round=>
    obtain⟨k,hk',rfl,hb,hown⟩:=hrel
    obtain⟨a2,k2,rfl⟩:=owns_form hown
    by_cases hlt:k<m.parts.length
    ·obtain⟨b,o,rfl,d0,d1,d2,-,i1,i2⟩:=Pts.at_ hel k hlt
     replace d0:=hb.sub _ _ d0
     replace d1:=hb.sub _ _ d1
     replace d2:=hb.sub _ _ d2
     have HN:=η (show b0++(m.parts.take (k+1)).flatMap partBytes=(b0++(m.parts.take k).flatMap partBytes++numB m.parts[k].k)++numB m.parts[k].n by
      rw [flat_snoc partBytes hlt]
      simp [partBytes])
     have hlk:(m.parts.take k).length≤4:=by rw [List.length_take];omega
     have hln:(b0++(m.parts.take k).flatMap partBytes).length≤131:=by
      have:=HPL.o k
      have:=HBL.o
      rw [List.length_append];omega
     have HLN:=η hln
     have HI1:=η i1
     have HI2:=η i2
     have HOW:=η hown
     have HB:=η hb
     clear hel i1 i2 hlk hln hown hb c0 c1 c2 c3
     generalize b0++(m.parts.take k).flatMap partBytes=pre at*
     generalize m.parts[k]=p at*
     obtain⟨ph,pk,pn⟩:=p
     simp only at d0 d1 d2 HI1 HI2 HN
     have RP:=η (row_new wr (.cells #[.int .i64 ph,.int .i64 pk,.int .i64 pn] 31))
     have HOA:=η (HOW.o.grow ((Grow.refl wr).alloc (.cells #[.int .i64 ph,.int .i64 pk,.int .i64 pn] 31)))
     have HGA:Hid (Grow w (wr.alloc (.cells #[.int .i64 ph,.int .i64 pk,.int .i64 pn] 31))):=η (HB.o.alloc _)
     have HWZ:Hid (∀q,(Value.slice a2 pre.length k2).ownBlock=some q→q<wr.heap.size):=η (fun q hq=>(HOW.o.lt q hq).2)
     go_wp2
     obtain⟨wa,hwa⟩:∃x:World,x=wr.alloc (.cells #[.int .i64 ph,.int .i64 pk,.int .i64 pn] 31):=⟨_,rfl⟩
     rw [←hwa] at RP HOA HGA ⊢
     have HZA:Hid (wa.heap.size=wr.heap.size+1):=η (by rw [hwa];simp)
     clear hwa
     refine but_start (fun w'=>w'.cell? ⟨wr.heap.size,1,none⟩=some (.int .i64 pk)∧w'.cell? ⟨wr.heap.size,2,none⟩=some (.int .i64 pn)) 7 (by kernel_rfl) ?_
     obtain⟨wd,hWd⟩:∃x:World,x=wa.drew:=⟨_,rfl⟩
     rw [←hWd]
     have GD:Grow wa wd:=by rw [hWd];exact(Grow.refl _).drew
     have zD:wa.heap.size=wd.heap.size:=by rw [hWd];rfl
     have ZD:=η zD
     clear hWd zD
     refine bLm [0,1,2,4,5] 10 (by kernel_rfl) (fun _ _ _ _ _ h=>h) (⟨(cells3 (row_grow RP.o GD)).2.1,(cells3 (row_grow RP.o GD)).2.2⟩) ?_
     repeat (refine tNm (v:=?_) rfl (by rfl) ?_ ?_;rotate_left;(· (intro w' hSw;(try dsimp only at hSw);obtain⟨hs0,hs1⟩:=hSw;go_simp<;>with_reducible rfl));try simp only [Act.put,lzA,lzB,lzC,lzD,lzE,lzF])
     refine tEm ?_
     refine bO 3 (by kernel_rfl) rfl ?_
     intro K HK
     try simp only [lzA,lzB,lzC]
     go_simp
     go_at_call 111
     refine(wire_number (base:=w.heap.size) wd (HOA.o.grow GD) (by have:=(HGA.o.trans GD).size;omega) HI1.o (by have:=HLN.o;omega)).mono ?_
     rintro e w4 ⟨v4,rfl,ho4,hm4⟩
     obtain⟨a4,k4,rfl⟩:=owns_form ho4
     have R4:=η (hm4.row (row_grow RP.o GD) (fun q hq=>by have:=HWZ.o q hq;omega))
     have G4:=η (hm4.all (HGA.o.trans GD) (fun q hq=>(HOA.o.lt q hq).1))
     have HO4:=η ho4
     have HW4:Hid (∀q,(Value.slice a4 (pre++numB pk).length k4).ownBlock=some q→q≠wr.heap.size):=η (fun q hq=>by
      have hz:=HZA.o;have hz2:=GD.size
      rcases hm4.2 with e|⟨g,e,hg⟩
      ·rw [e] at hq;have:=HWZ.o q hq;omega
      ·rw [e] at hq;obtain rfl:=Option.some.inj hq;omega)
     have HL4:Hid ((pre++numB pk).length+10≤140737488355328):=η (by have:=numB_len (i64_bounds HI1.o).1 (i64_bounds HI1.o).2;have:=HLN.o;rw [List.length_append];omega)
     clear ho4 hm4
     generalize pre++numB pk=pre4 at*
     refine HK.o _ _ ⟨fun _=>⟨(cells3 R4.o).2.1,(cells3 R4.o).2.2⟩,?_⟩
     clear HK K
     try simp only [Act.put,lzA,lzB,lzC,lzD,lzE,lzF]
     refine bO 6 (by kernel_rfl) rfl ?_
     intro K HK
     try simp only [lzA,lzB,lzC]
     go_simp
     go_at_call 111
     refine(wire_number (base:=w.heap.size) w4 HO4.o (by have:=G4.o.size;omega) HI2.o HL4.o).mono ?_
     rintro e w6 ⟨v6,rfl,ho6,hm6⟩
     obtain⟨a6,k6,rfl⟩:=owns_form ho6
     have R6:=η (hm6.row R4.o (fun q hq e=>HW4.o q hq e.symm))
     have G6:=η (hm6.all G4.o (fun q hq=>(HO4.o.lt q hq).1))
     have HO6:=η ho6
     clear ho6 hm6
     generalize pre4++numB pn=pre6 at*
     refine HK.o _ _ ⟨fun _=>⟨(cells3 R6.o).2.1,(cells3 R6.o).2.2⟩,?_⟩
     clear HK K
     try simp only [Act.put,lzA,lzB,lzC,lzD,lzE,lzF]
     refine bO 7 (by kernel_rfl) rfl ?_
     intro K HK
     try simp only [lzA,lzB,lzC]
     go_simp
     refine HK.o _ _ ⟨fun h=>absurd rfl h,?_⟩
     clear HK K
     try simp only [Act.put,lzA,lzB,lzC,lzD,lzE,lzF]
     refine but_done (by kernel_rfl) ?_
     go_wp2
     go_roundw
     case rel=>exact⟨k+1,by omega,by go_num,G6.o,by rw [HN.o];exact HO6.o⟩
     case measure=>simp [intOf];omega
    ·rw [List.take_of_length_le (by omega),HM2.o] at hown ⊢
     have HOW:=η hown
     have HB:=η hb
     have HLH:Hid ((msgHead m).length≤111):=η (by
      rw [←HM2.o,List.length_append]
      have:=HPL.o m.parts.length
      rw [List.take_of_length_le (Nat.le_refl _)] at this
      have:=HBL.o
      omega)
     obtain⟨z1,hz1⟩:∃z,z=UInt8.ofNat (sumB (msgHead m)/256):=⟨_,rfl⟩
     obtain⟨z2,hz2⟩:∃z,z=UInt8.ofNat (sumB (msgHead m)):=⟨_,rfl⟩
     have HS1:Hid ((sumB (msgHead m):Int)/256 % 256=(z1.toNat:Int)):=η (by rw [hz1,byte_wrap];omega)
     have HS2:Hid ((sumB (msgHead m):Int) % 256=(z2.toNat:Int)):=η (by rw [hz2,byte_wrap];omega)
     have HBM:Hid (msgHead m++ [z1,z2]=bytesM m):=η (by rw [hz1,hz2];rfl)
     have hs1:=sumB_lt (msgHead m)
     have HSUM:=η (fun(W:World) (hW:Grow wr W)=>wire_sum W ((HOW.o.grow hW).bts))
     clear hel hown hb hz1 hz2
     generalize sumB (msgHead m)=s at*
     generalize msgHead m=hd at*
     go_wp2_with fail
     refine(HSUM.o _ (Grow.refl _)).mono ?_
     rintro e w7 ⟨rfl,hb7⟩
     have HO7:=η (HOW.o.grow hb7)
     have HB7:=η (HB.o.trans hb7)
     have hsz7:w.heap.size≤w7.heap.size:=HB7.o.size
     clear hb7
     go_wp2_with (at_builtin;refine appB rfl _ _ rfl rfl HO7.o hsz7 rfl rfl [z1,z2] ?e0 rfl ?e1 ?_)
     case e0=>exact two_bytes (by first|exact HS1.o|(rw [←HS1.o];omega)) (by first|exact HS2.o|(rw [←HS2.o];omega))
     case e1=>have:=HLH.o;simp;omega
     intro v9 w9 ho9 hm9
     have HO9:=η ho9
     have HB9:=η (hm9.all HB7.o (fun q hq=>(HO7.o.lt q hq).1))
     clear ho9 hm9
     go_wp2
     go_ret
     exact⟨_,rfl,by rw [←HBM.o];exact HO9.o,HB9.o⟩
theorem get_more {b:List UInt8} {k u:Nat} {X:Int×Int×Int} (h:getGo k u (b.drop k)=X) (hk:k<b.length):(if 6≤k then((0:Int),(0:Int),(3:Int)) else if 128≤b[k].toNat then getGo (k+1) (u+b[k].toNat % 128*128^k) (b.drop (k+1))
  else if 0<k∧b[k].toNat=0 then(0,0,2) else(zag (u+b[k].toNat % 128*128^k),(k:Int)+1,0))=X:=by
 rw [List.drop_eq_getElem_cons hk,getGo] at h
 exact h
theorem get_end {b:List UInt8} {k u:Nat} {X:Int×Int×Int} (h:getGo k u (b.drop k)=X) (hk:¬k<b.length):((0:Int),(0:Int),(8:Int))=X:=by
 rw [List.drop_of_length_le (by omega),getGo] at h
 exact h
theorem ret_3 {x y z:Int} {X:Int×Int×Int} (h:(x,y,z)=X):Ending.returned (.tuple #[.int .i64 x,.int .i64 y,.int .i64 z])=.returned (.tuple #[.int .i64 X.1,.int .i64 X.2.1,.int .i64 X.2.2]):=by rw [←h]
theorem get_or {u x k:Nat} (hk:k<6) (hu:u<128^k) (_:x<256):bits .or .u64 (u:Int) (IntKind.u64.wrap ((x:Int) % 128*2^(7*k)))=((u+x % 128*128^k:Nat):Int):=by
 rw [←bits_orGet (v:=x % 128) hu (Nat.mod_lt _ (by decide)) hk]
 congr 1
 have h6:(128:Nat)^k≤128^5:=Nat.pow_le_pow_right (by decide) (by omega)
 have h5:(128:Nat)^5=34359738368:=by decide
 have hm:x % 128*128^k≤127*128^k:=Nat.mul_le_mul_right _ (by omega)
 have e:(x:Int) % 128*2^(7*k)=((x % 128*128^k:Nat):Int):=by
  rw [←pow7]
  simp
 rw [e,IntKind.wrap_u64]
 omega
theorem get_next {u x k:Nat} (hk:k<6) (hu:u<128^k):u+x % 128*128^k<128^(k+1)∧u+x % 128*128^k<4398046511104:=by
 have hm:x % 128*128^k≤127*128^k:=Nat.mul_le_mul_right _ (by omega)
 have h6:(128:Nat)^(k+1)≤128^6:=Nat.pow_le_pow_right (by decide) (by omega)
 have h5:(128:Nat)^6=4398046511104:=by decide
 have h7:(128:Nat)^(k+1)=128*128^k:=by rw [Nat.pow_succ,Nat.mul_comm]
 omega
theorem get_and {q:Nat} (h:q<4398046511104):bits .and .u64 (q:Int) 1=(q:Int) % 2:=by
 rw [bits_and1 (by omega)];omega
theorem get_xor {q:Nat} (h:q<4398046511104):bits .xor .i64 ((q:Int)/2) (-((q:Int) % 2))=zag q:=by
 rw [←bits_zag (by omega)];rfl
set_option maxHeartbeats 1000000 in
set_option maxRecDepth 100000 in
theorem wire_get {v:Value} {b:List UInt8} (w:World) (hv:Bts w.cell? v b):
  Calls Tryz.prog 137 #[v] w fun e w'=>e=.returned (.tuple #[.int .i64 (getB b).1,.int .i64 (getB b).2.1,.int .i64 (getB b).2.2])∧Grow w w':=by
 obtain⟨a,cap,rfl,h1,h2,-,hel⟩:=hv
 unfold maxLen at h2
 go_enter Tryz.func137,Tryz.ntmps137
 go_wp2
 go_loopw [5,10] (fun u i wr=>∃k u':Nat,k≤b.length∧k≤6∧i=.int .i64 k∧u=.int .u64 u'∧u'<128^k∧getGo k u' (b.drop k)=getB b∧Grow w wr) (fun _ i _=>b.length - (intOf i).toNat)
 case atStart=>exact⟨0,0,by omega,by omega,rfl,rfl,by simp,rfl,grA⟩
 case round=>
  obtain⟨k,u,hk',hk6,rfl,rfl,hu,hE,hb⟩:=hrel
  by_cases hlt:k<b.length
  ·obtain⟨bb,o,rfl,c0⟩:=byteAt hel k hlt
   replace c0:=hb.sub _ _ c0
   have hE2:=get_more hE hlt
   have hx:=b[k].toNat_lt
   clear hel hE
   obtain⟨x,hxe⟩:∃x,x=b[k].toNat:=⟨_,rfl⟩
   rw [←hxe] at c0 hx hE2
   clear hxe
   by_cases h6:6≤k
   ·rw [if_pos h6] at hE2
    have HE:=η hE2
    clear hE2
    go_wp2
    refine bodyPost_ret (v:=.tuple #[.int .i64 0,.int .i64 0,.int .i64 3]) (by simp [results,Tryz.results137,go_sem]) rfl ?_
    exact⟨ret_3 HE.o,hb⟩
   ·rw [if_neg h6] at hE2
    have hor:=get_or (by omega) hu hx
    obtain⟨hq1,hq2⟩:=get_next (x:=x) (by omega) hu
    obtain⟨q,hqe⟩:∃q,q=u+x % 128*128^k:=⟨_,rfl⟩
    rw [←hqe] at hE2 hor hq1 hq2
    have hand:=get_and hq2
    have HX:=η (get_xor hq2)
    have HQ1:=η hq1
    have HE:=η hE2
    have hand7:=bits_and127 hx
    clear hE2 hqe hq1 hu
    by_cases h8:128≤x
    ·go_wp2
     go_roundw
     case rel=>exact⟨k+1,q,by omega,by omega,by go_num,by go_num,HQ1.o,by have h9:=HE.o;rwa [if_pos h8] at h9,hb⟩
     case measure=>simp [intOf];omega
    ·by_cases h9:0<k∧x=0
     ·have HE2:=η (show((0:Int),(0:Int),(2:Int))=getB b by have h9':=HE.o;rwa [if_neg h8,if_pos h9] at h9')
      obtain⟨h9a,rfl⟩:=h9
      go_wp2
      refine bodyPost_ret (v:=.tuple #[.int .i64 0,.int .i64 0,.int .i64 2]) (by simp [results,Tryz.results137,go_sem]) rfl ?_
      exact⟨ret_3 HE2.o,grA⟩
     ·have HE2:=η (show(zag q,(k:Int)+1,(0:Int))=getB b by have h9':=HE.o;rwa [if_neg h8,if_neg h9] at h9')
      by_cases hk0:0<k
      ·have hx0:¬x=0:=fun e=>h9 ⟨hk0,e⟩
       have hbx:((x:Int)==0)=false:=by simp [hx0]
       clear h9 hx0
       go_wp2
       refine bodyPost_ret (v:=.tuple #[.int .i64 (zag q),.int .i64 ((k:Int)+1),.int .i64 0]) (by simp [results,Tryz.results137,go_sem,HX.o]) rfl ?_
       exact⟨ret_3 HE2.o,grA⟩
      ·clear h9
       go_wp2
       refine bodyPost_ret (v:=.tuple #[.int .i64 (zag q),.int .i64 ((k:Int)+1),.int .i64 0]) (by simp [results,Tryz.results137,go_sem,HX.o]) rfl ?_
       exact⟨ret_3 HE2.o,grA⟩
  ·have HE:=η (get_end hE hlt)
   clear hE
   go_wp2
   refine bodyPost_ret (v:=.tuple #[.int .i64 0,.int .i64 0,.int .i64 8]) (by simp [results,Tryz.results137,go_sem]) rfl ?_
   exact⟨ret_3 HE.o,hb⟩
end Go.Proofs.YthfgeelcbcgahaaGreatDoor
namespace Go.Proofs.YthfgeelcbcgahaaGreatDoor
abbrev RS:=List UInt8×Int
def nextE (s:RS):Int×RS:=if s.2≠0 then(0,s) else if(getB s.1).2.2≠0 then(0,s.1,(getB s.1).2.2) else((getB s.1).1,s.1.drop (getB s.1).2.1.toNat,0)
def nextN:Nat→RS→List Int×RS
 |0,s=>([],s)
 |n+1,s=>((nextE s).1::(nextN n (nextE s).2).1,(nextN n (nextE s).2).2)
theorem nextN_len:∀(n:Nat) (s:RS),(nextN n s).1.length=n
 |0,_=>rfl
 |n+1,s=>by rw [nextN];simp [nextN_len n]
theorem nextN_snoc:∀(n:Nat) (s:RS),nextN (n+1) s=((nextN n s).1++ [(nextE (nextN n s).2).1],(nextE (nextN n s).2).2)
 |0,s=>rfl
 |n+1,s=>by
  rw [nextN,nextN_snoc n]
  rfl
theorem nextE_ok {l:List UInt8} (h:(getB l).2.2=0):nextE (l,0)=((getB l).1,l.drop (getB l).2.1.toNat,0):=by
 unfold nextE
 rw [if_neg (by simp),if_neg (by simpa using h)]
theorem nextE_bad {l:List UInt8} (h:(getB l).2.2≠0):nextE (l,0)=(0,l,(getB l).2.2):=by
 unfold nextE
 rw [if_neg (by simp),if_pos h]
theorem nextE_stuck {l:List UInt8} {e:Int} (h:e≠0):nextE (l,e)=(0,l,e):=by
 unfold nextE
 rw [if_pos h]
theorem nextN_stuck:∀(n:Nat) {l:List UInt8} {e:Int},e≠0→nextN n (l,e)=(List.replicate n 0,l,e)
 |0,_,_,_=>rfl
 |n+1,l,e,h=>by rw [nextN,nextE_stuck h,nextN_stuck n h];rfl
theorem nextN_ok:∀(n:Nat) {l:List UInt8} {xs:List Int} {r:List UInt8},getN n l=.inl (xs,r)→nextN n (l,0)=(xs,r,0)
 |0,l,xs,r,h=>by
  simp only [getN,Sum.inl.injEq,Prod.mk.injEq] at h
  obtain⟨rfl,rfl⟩:=h
  rfl
 |n+1,l,xs,r,h=>by
  rw [getN] at h
  split at h
  ·rename_i h0
   cases hn:getN n (l.drop (getB l).2.1.toNat) with
   |inr e=>rw [hn] at h;simp at h
   |inl p=>
    obtain⟨ys,r'⟩:=p
    rw [hn] at h
    simp only [Sum.inl.injEq,Prod.mk.injEq] at h
    obtain⟨rfl,rfl⟩:=h
    rw [nextN,nextE_ok h0,nextN_ok n hn]
  ·simp at h
theorem nextN_err:∀(n:Nat) {l:List UInt8} {e:Int},getN n l=.inr e→∃xs r,nextN n (l,0)=(xs,r,e)∧e≠0∧xs.getD (n - 1) 0=0
 |0,l,e,h=>by simp [getN] at h
 |n+1,l,e,h=>by
  rw [getN] at h
  split at h
  ·rename_i h0
   cases hn:getN n (l.drop (getB l).2.1.toNat) with
   |inl p=>
    obtain⟨ys,r'⟩:=p
    rw [hn] at h
    simp at h
   |inr e'=>
    rw [hn] at h
    simp only [Sum.inr.injEq] at h
    subst h
    obtain⟨xs,r,h1,h2,h3⟩:=nextN_err n hn
    refine⟨(getB l).1::xs,r,by rw [nextN,nextE_ok h0,h1],h2,?_⟩
    cases n with
    |zero=>simp [getN] at hn
    |succ n=>simpa using h3
  ·rename_i h0
   simp only [Sum.inr.injEq] at h
   subst h
   refine⟨List.replicate (n+1) 0,l,by rw [nextN,nextE_bad h0,nextN_stuck n h0];rfl,h0,?_⟩
   simp
def readP (m:Ms) (t:RS):Ms×Int:=
 if(if t.2=0∧t.1≠ [] then 2 else t.2)=0 then(if wrongM m=0 then(m,0) else(ms0,wrongM m)) else(ms0,if t.2=0∧t.1≠ [] then 2 else t.2)
def readE (kind:Int) (l:List UInt8):Ms×Int:=
 if(nextN 3 (l,0)).2.2=0∧((nextN 3 (l,0)).1.getD 2 0<0∨4<(nextN 3 (l,0)).1.getD 2 0) then(ms0,5)
 else readP ⟨kind,(nextN 3 (l,0)).1.getD 0 0,(nextN 3 (l,0)).1.getD 1 0,pairs ((nextN 3 (l,0)).1.getD 1 0) (nextN (2*((nextN 3 (l,0)).1.getD 2 0).toNat) (nextN 3 (l,0)).2).1⟩ (nextN (2*((nextN 3 (l,0)).1.getD 2 0).toNat) (nextN 3 (l,0)).2).2
theorem readE_body (kind:Int) (l:List UInt8):readE kind l=readBody kind l:=by
 unfold readE readBody
 cases h3:getN 3 l with
 |inr e=>
  obtain⟨xs,r,h1,h2,h4⟩:=nextN_err 3 h3
  rw [h1]
  simp only
  rw [if_neg (fun h=>h2 h.1)]
  have h5:xs.getD 2 0=0:=h4
  rw [h5]
  simp only [Int.toNat_zero,Nat.mul_zero,nextN]
  unfold readP
  rw [if_neg (by simp [h2])]
  simp [h2]
 |inl p=>
  obtain⟨xs,r⟩:=p
  rw [nextN_ok 3 h3]
  simp only [true_and]
  by_cases hn:xs.getD 2 0<0∨4<xs.getD 2 0
  ·rw [if_pos hn,if_pos hn]
  ·rw [if_neg hn,if_neg hn]
   cases h4:getN (2*(xs.getD 2 0).toNat) r with
   |inr e=>
    obtain⟨ys,r',h5,h6,-⟩:=nextN_err _ h4
    rw [h5]
    unfold readP
    simp [h6]
   |inl p=>
    obtain⟨ys,r'⟩:=p
    rw [nextN_ok _ h4]
    unfold readP
    by_cases hr:r'=[]
    ·simp [hr]
    ·simp [hr]
theorem readB_E (b:List UInt8):readB b=if b.length<3 then(ms0,8) else if sumOk b=true then readE ((b.getD 0 0).toNat:Nat) ((b.take (b.length - 2)).drop 1) else(ms0,7):=by
 unfold readB
 rw [readE_body]
theorem pairs_snoc (h:Int):∀(n:Nat) {xs:List Int} {k x:Int},xs.length=2*n→pairs h (xs++ [k,x])=pairs h xs++ [⟨h,k,x⟩]
 |0,xs,k,x,hl=>by
  obtain rfl:xs=[]:=List.eq_nil_of_length_eq_zero (by omega)
  rfl
 |n+1,xs,k,x,hl=>by
  match xs,hl with
  | [],hl=>simp at hl
  | [a],hl=>simp at hl;omega
  |a::b::xs,hl=>
   simp only [List.cons_append,pairs]
   rw [pairs_snoc h n (by simp at hl;omega)]
theorem pairs_next (h:Int) (n:Nat) (s:RS):pairs h (nextN (2*(n+1)) s).1=pairs h (nextN (2*n) s).1++ [⟨h,(nextE (nextN (2*n) s).2).1,(nextE (nextE (nextN (2*n) s).2).2).1⟩]∧
  (nextN (2*(n+1)) s).2=(nextE (nextE (nextN (2*n) s).2).2).2:=by
 rw [show 2*(n+1)=2*n+1+1 by omega,nextN_snoc,nextN_snoc]
 simp only [List.append_assoc,List.cons_append,List.nil_append]
 exact⟨pairs_snoc h n (nextN_len _ _),trivial⟩
theorem zag_bound {u:Nat} (h:u<4398046511104):-2199023255552≤zag u∧zag u<2199023255552:=by
 unfold zag
 split<;>omega
theorem getGo_bound:∀(b:List UInt8) (i u:Nat),u<128^i→-2199023255552≤(getGo i u b).1∧(getGo i u b).1<2199023255552∧0≤(getGo i u b).2.1∧(getGo i u b).2.1≤i+b.length∧0≤(getGo i u b).2.2∧(getGo i u b).2.2≤8
 | [],i,u,_=>by
  rw [getGo]
  refine⟨by decide,by decide,by decide,?_,by decide,by decide⟩
  show(0:Int)≤_
  omega
 |c::b,i,u,hu=>by
  have hx:c.toNat % 128≤127:=by omega
  have hm:c.toNat % 128*128^i≤127*128^i:=Nat.mul_le_mul_right _ hx
  have hlt:u+c.toNat % 128*128^i<128^(i+1):=by
   rw [Nat.pow_succ];omega
  rw [getGo]
  split
  ·refine⟨by decide,by decide,by decide,?_,by decide,by decide⟩
   show(0:Int)≤_
   omega
  ·rename_i h6
   split
   ·have:=getGo_bound b (i+1) _ hlt
    simp only [List.length_cons]
    push_cast at this ⊢
    omega
   ·split
    ·refine⟨by decide,by decide,by decide,?_,by decide,by decide⟩
     show(0:Int)≤_
     omega
    ·have h6':(128:Nat)^(i+1)≤128^6:=Nat.pow_le_pow_right (by decide) (by omega)
     have e6:(128:Nat)^6=4398046511104:=by decide
     have:=zag_bound (u:=u+c.toNat % 128*128^i) (by omega)
     simp only [List.length_cons]
     push_cast
     refine⟨this.1,this.2,by omega,by omega,by decide,by decide⟩
theorem getB_bound (b:List UInt8):-2199023255552≤(getB b).1∧(getB b).1<2199023255552∧0≤(getB b).2.1∧(getB b).2.1≤b.length∧0≤(getB b).2.2∧(getB b).2.2≤8:=by
 have:=getGo_bound b 0 0 (by decide)
 unfold getB
 refine⟨this.1,this.2.1,this.2.2.1,?_,this.2.2.2.2⟩
 have h:=this.2.2.2.1
 simp only [Int.natCast_zero,Int.zero_add] at h
 exact h
theorem nextE_bound (s:RS):-2199023255552≤(nextE s).1∧(nextE s).1<2199023255552:=by
 have:=getB_bound s.1
 unfold nextE
 split
 ·exact⟨(by show(-2199023255552:Int)≤0;decide),(by show(0:Int)<2199023255552;decide)⟩
 ·split
  ·exact⟨(by show(-2199023255552:Int)≤0;decide),(by show(0:Int)<2199023255552;decide)⟩
  ·exact⟨this.1,this.2.1⟩
end Go.Proofs.YthfgeelcbcgahaaGreatDoor
namespace Go.Proofs.YthfgeelcbcgahaaGreatDoor
open Go.RowKit
theorem Sl.drop {α:Type} {T:Ty α} {c:CM} {b o n cap:Nat} {l:List α} (h:Sl T c (.slice (some ⟨b,o,none⟩) n cap) l) (k:Nat) (hk:k≤n):Sl T c (.slice (some ⟨b,o+k*T.size,none⟩) (n - k) (cap - k)) (l.drop k):=by
 obtain⟨a',cap',he,h1,h2,h3,hel⟩:=h
 simp only [Value.slice.injEq] at he
 obtain⟨rfl,rfl,rfl⟩:=he
 refine⟨_,cap - k,by rw [List.length_drop],by rw [List.length_drop];omega,by omega,by simp,fun i x e=>?_⟩
 rw [List.getElem?_drop] at e
 obtain⟨b',o',cs,ha,hR,hA⟩:=hel _ x e
 simp only [Option.some.injEq,Addr.mk.injEq] at ha
 obtain⟨rfl,rfl,-⟩:=ha
 refine⟨b,o+k*T.size,cs,rfl,hR,?_⟩
 have e2:o+(k+i)*T.size=o+k*T.size+i*T.size:=by rw [Nat.add_mul,Nat.add_assoc]
 rw [←e2];exact hA
theorem Sl.none' {α:Type} (T:Ty α) (c:CM) (a:Addr) {l:List α} (hl:l=[]):Sl T c (.slice (some a) 0 0) l:=by
 subst hl
 exact⟨some a,0,rfl,Nat.le_refl _,Nat.zero_le _,by simp,fun i x e=>by simp at e⟩
theorem cells2 {w:World} {B:Nat} {a b:Value} {t:TypeId} (h:w.heap[B]? =some (.cells #[a,b] t (0,0))):w.cell? ⟨B,0,none⟩=some a∧w.cell? ⟨B,1,none⟩=some b:=by
 refine⟨?_,?_⟩<;>simp [World.cell?,h]
theorem row_set2_0 {w:World} {B:Nat} {a b:Value} {t:TypeId} (h:w.heap[B]? =some (.cells #[a,b] t (0,0))) (u:Value):(w.setCell ⟨B,0,none⟩ u).heap[B]? =some (.cells #[u,b] t (0,0)):=by
 simp only [World.setCell,Array.getElem?_modify,h];simp
theorem row_set2_1 {w:World} {B:Nat} {a b:Value} {t:TypeId} (h:w.heap[B]? =some (.cells #[a,b] t (0,0))) (u:Value):(w.setCell ⟨B,1,none⟩ u).heap[B]? =some (.cells #[a,u] t (0,0)):=by
 simp only [World.setCell,Array.getElem?_modify,h];simp
def Rdr (w:World) (B:Nat) (c:CM) (s:RS):Prop:=∃a cap,w.heap[B]? =some (.cells #[.slice a s.1.length cap,.int .i64 s.2] 178 (0,0))∧Sl Ty.byte c (.slice a s.1.length cap) s.1
theorem Rdr.grow {w w':World} {B:Nat} {c:CM} {s:RS} (h:Rdr w B c s) (hg:Grow w w'):Rdr w' B c s:=by
 obtain⟨a,cap,h1,h2⟩:=h
 exact⟨a,cap,row_grow h1 hg,h2⟩
set_option maxRecDepth 100000 in
set_option maxHeartbeats 1000000 in
theorem wire_next {w:World} {B:Nat} {c:CM} {s:RS} (hr:Rdr w B c s) (hc:Sub c w.cell?):
  Calls Tryz.prog 109 #[.pointer (some ⟨B,0,none⟩)] w fun e w'=>e=.returned (.int .i64 (nextE s).1)∧Rdr w' B c (nextE s).2∧w.grownBy w' (some B):=by
 obtain⟨l,er⟩:=s
 obtain⟨a,cap,hrow,hl⟩:=hr
 simp only at hrow hl
 have HROW:=η hrow
 have HL:=η hl
 obtain⟨c0,c1⟩:=cells2 hrow
 have zB:B<w.heap.size:=(γ hrow)
 have f0:=row_free hrow
 clear hrow
 by_cases he:er=0
 ·subst he
  have HG:=η (wire_get w (hl.mono hc))
  obtain⟨-,-,hb0,hb1,hb2,hb3⟩:=getB_bound l
  by_cases h2:(getB l).2.2=0
  ·have HE:=η (nextE_ok h2)
   obtain⟨k,hk⟩:∃k:Nat,(getB l).2.1=k:=⟨(getB l).2.1.toNat,by omega⟩
   have hne:l≠ []:=fun e=>by rw [e] at h2;revert h2;decide
   rw [hk] at HG HE
   rw [h2] at HG
   have hkl:k≤l.length:=by omega
   simp only [Int.toNat_natCast] at HE
   clear hb0 hb1 hb2 hb3 h2 hk
   obtain⟨a',cap',hf,g1,g2,g3,hel⟩:=id hl
   simp only [Value.slice.injEq,true_and] at hf
   obtain⟨rfl,rfl⟩:=hf
   unfold maxLen at g2
   have hlp:0<l.length:=List.length_pos_iff.2 hne
   obtain⟨bb,o,cs,rfl,-,-⟩:=hel 0 l[0] (by simp)
   clear hel hne g3
   by_cases hcap:cap=k
   ·have HD:Hid (Sl Ty.byte c (.slice (some ⟨bb,o,none⟩) 0 0) (l.drop k)):=η (Sl.none' _ _ _ (List.drop_eq_nil_of_le (by omega)))
    have HDL:Hid ((l.drop k).length=0):=η (by rw [List.length_drop];omega)
    obtain rfl:=hcap
    clear hl
    generalize (getB l).1=x at*
    go_enter Tryz.func109,Tryz.ntmps109
    go_wp2_with fail
    refine HG.o.mono ?_
    rintro e w1 ⟨rfl,hb1⟩
    have R1:=η (row_grow HROW.o hb1)
    have HB1:=η hb1
    obtain⟨d0,d1⟩:=cells2 R1.o
    have zB1:B<w1.heap.size:=(γ R1.o)
    have f1:=row_free R1.o
    clear hb1 c0 c1 f0
    go_wp2
    go_ret
    refine⟨ret_int (by rw [HE.o]),?_,grownBy_trans (grownBy_of_grow HB1.o (some B)) (grownBy_setCell w1 ⟨B,0,none⟩ _)⟩
    rw [HE.o]
    have h9:=row_set2_0 R1.o (.slice (some ⟨bb,o,none⟩) 0 0)
    refine⟨some ⟨bb,o,none⟩,0,?_,?_⟩
    ·rw [show(l.drop cap,(0:Int)).1.length=0 from HDL.o]
     exact h9
    ·rw [show(l.drop cap,(0:Int)).1.length=0 from HDL.o];exact HD.o
   ·have HD:=η (hl.drop k hkl)
    have HDL:Hid ((l.drop k).length=l.length - k):=η (List.length_drop)
    clear hl
    generalize (getB l).1=x at*
    go_enter Tryz.func109,Tryz.ntmps109
    go_wp2_with fail
    refine HG.o.mono ?_
    rintro e w1 ⟨rfl,hb1⟩
    have R1:=η (row_grow HROW.o hb1)
    have HB1:=η hb1
    obtain⟨d0,d1⟩:=cells2 R1.o
    have zB1:B<w1.heap.size:=(γ R1.o)
    have f1:=row_free R1.o
    clear hb1 c0 c1 f0
    go_wp2
    go_ret
    refine⟨ret_int (by rw [HE.o]),?_,grownBy_trans (grownBy_of_grow HB1.o (some B)) (grownBy_setCell w1 ⟨B,0,none⟩ _)⟩
    rw [HE.o]
    have h9:=row_set2_0 R1.o (.slice (some ⟨bb,o+k,none⟩) (l.length - k) (cap - k))
    refine⟨some ⟨bb,o+k,none⟩,cap - k,?_,?_⟩
    ·rw [show(l.drop k,(0:Int)).1.length=l.length - k from HDL.o]
     exact h9
    ·rw [show(l.drop k,(0:Int)).1.length=l.length - k from HDL.o];simpa [Ty.byte] using HD.o
  ·have HE:=η (nextE_bad h2)
   clear hb0 hb1
   have hb4:((getB l).2.2 !=0)=true:=by simp [h2]
   clear h2 hl
   generalize (getB l).1=x at*
   generalize (getB l).2.1=y at*
   generalize (getB l).2.2=z at*
   go_enter Tryz.func109,Tryz.ntmps109
   go_wp2_with fail
   refine HG.o.mono ?_
   rintro e w1 ⟨rfl,hb1⟩
   have R1:=η (row_grow HROW.o hb1)
   have HB1:=η hb1
   obtain⟨d0,d1⟩:=cells2 R1.o
   have zB1:B<w1.heap.size:=(γ R1.o)
   have f1:=row_free R1.o
   clear hb1 c0 c1 f0
   go_wp2
   go_ret
   refine⟨ret_int (by rw [HE.o]),?_,grownBy_trans (grownBy_of_grow HB1.o (some B)) (grownBy_setCell w1 ⟨B,1,none⟩ _)⟩
   rw [HE.o]
   exact⟨a,cap,row_set2_1 R1.o _,HL.o⟩
 ·have HE:=η (nextE_stuck (l:=l) he)
  have hb4:(er !=0)=true:=by simp [he]
  clear he hl
  go_enter Tryz.func109,Tryz.ntmps109
  go_wp2
  go_ret
  refine⟨ret_int (by rw [HE.o]),?_,grownBy_of_grow (Grow.refl _) _⟩
  rw [HE.o]
  exact⟨a,cap,HROW.o,HL.o⟩
theorem OwnT.pts {w:World} {base e:Nat} {v:Value} {l:List Pt} (c:CM) (h:OwnT Ty.pt w base e v l):OwnC Ty.pt c w base e v l:=by
 obtain⟨css,h1,h2,h3⟩:=h
 exact⟨css,h1,h2,fun i cs x a b=>h3 i cs x a b⟩
theorem of_lit {B:Nat} {n:Int} (wx:World) (cs:List Value) (x:Pt) (hB:B<wx.heap.size) (hc:wx.cell? ⟨B,0,none⟩=some (.int .i64 n)) (hR:Ty.pt.R wx.cell? cs x):
  Calls Tryz.prog 85 #[.agg cs.toArray,.pointer (some ⟨B,0,none⟩)] wx fun e w'=>e=.returned (.bool (x.h !=n))∧Grow wx w':=by
 obtain⟨rfl,-⟩:=hR
 obtain⟨ph,pk,pn⟩:=x
 unfold Pt.cells
 simp only
 go_enter Tryz.func85,Tryz.ntmps85
 go_wp2
 go_ret
 exact⟨rfl,grA⟩
set_option maxHeartbeats 400000 in
theorem part_of {v:Value} {l:List Pt} {n:Int} (w:World) (hv:Pts w.cell? v l) (hm:l.length*24≤140737488355328):
  Calls Tryz.prog 52 #[v,.int .i64 n] w fun e w'=>∃v',e=.returned v'∧OwnC Ty.pt (fun _=>none) w' w.heap.size 31 v' (ofL l n)∧Grow w w':=by
 have HOK:=η (Pts.ok hv)
 have HCL:=η (clone_pt (w.alloc (.cells #[.int .i64 n] 3)) (hv.mono ((Grow.refl w).alloc _).sub) hm)
 have HC0:Hid ((w.alloc (.cells #[.int .i64 n] 3)).cell? ⟨w.heap.size,0,none⟩=some (.int .i64 n)):=η (by rw [World.cell?_alloc_new];rfl)
 clear hv
 go_enter Tryz.func52,Tryz.ntmps52
 go_wp2_with fail
 refine HCL.o.mono ?_
 rintro e w1 ⟨v1,rfl,hown,hb1⟩
 have hT:OwnT Ty.pt w1 (w.alloc (.cells #[.int .i64 n] 3)).heap.size 31 v1 l:=OwnT.of_flat (T:=Ty.pt) (f:=Pt.cells) hown fun c x hx=>⟨rfl,HOK.o x hx⟩
 have hT0:OwnC Ty.pt (fun _=>none) w1 (w.alloc (.cells #[.int .i64 n] 3)).heap.size 31 v1 l:=hT.pts _
 have hlt:=hT0.lt
 have hc1:w1.cell? ⟨w.heap.size,0,none⟩=some (.int .i64 n):=hb1.sub _ _ HC0.o
 have hz1:w.heap.size<w1.heap.size:=by have:=hb1.size;simp at this;omega
 have hne:∀k,v1.ownBlock=some k→w.heap.size≠k:=fun k hk=>by have:=(hlt k hk).1;simp at this;omega
 have HD:=η (deleteFunc_pt hT (F:=85) (caps:=#[.pointer (some ⟨w.heap.size,0,none⟩)]) (p:=fun x=>x.h !=n) ⟨fun args w=>by kernel_rfl,fun wx cs x hg _ hR=>by
  refine of_lit wx cs x (Nat.lt_of_lt_of_le hz1 hg.size) ?_ hR
  rw [World.cell?_of_block (hg.block w.heap.size hz1 (fun e=>hne _ e.symm rfl))]
  exact hc1⟩)
 obtain⟨a1,c1,rfl⟩:=hT0.form
 have HB1:=η (((Grow.refl w).alloc (.cells #[.int .i64 n] 3)).trans hb1)
 have HLT:=η hlt
 clear hT hT0 hown hb1 hlt hc1 hz1 hne
 go_wp2_with fail
 refine HD.o.mono ?_
 rintro e w2 ⟨v2,rfl,hT2,hg2,-⟩
 have HX:Hid (OwnC Ty.pt (fun _=>none) w2 w.heap.size 31 v2 (ofL l n)):=η (by
  have h:=(hT2.pts (fun _=>none)).base (b':=w.heap.size) (by simp)
  have e:(l.filter fun x=>!(x.h !=n))=ofL l n:=by unfold ofL;congr 1;funext x;show(!(!(x.h==n)))=_;simp
  rw [←e];exact h)
 have HG:Hid (Grow w w2):=η (HB1.o.grown hg2 fun k hk=>by have:=(HLT.o k hk).1;simp at this;omega)
 clear hT2 hg2
 go_wp2
 go_ret
 exact⟨_,rfl,HX.o,HG.o⟩
theorem of_all {l:List Pt} {n:Int}:(ofL l n).length=l.length↔l.all (fun p=>p.h==n)=true:=by
 unfold ofL
 rw [List.length_filter_eq_length_iff,List.all_eq_true]
set_option maxRecDepth 100000 in
set_option maxHeartbeats 1000000 in
theorem wire_wrong {v:Value} {m:Ms} (w:World) (hv:Of Ty.ms w.cell? v m):
  Calls Tryz.prog 110 #[v] w fun e w'=>e=.returned (.int .i64 (wrongM m))∧Grow w w':=by
 obtain⟨ap,cp,rfl⟩:=hv.ms_form
 obtain⟨hp,-⟩:=hv.ms_parts
 have HW:=η (fun(W:World) (hW:Grow w W)=>part_wrong (h:=3) W (hp.mono hW.sub))
 have HO:=η (fun(hm:m.parts.length*24≤140737488355328) (W:World) (hW:Grow w W)=>part_of (n:=m.house) W (hp.mono hW.sub) hm)
 clear hv hp
 by_cases h1:m.kind<1
 ·have HE:Hid (wrongM m=1):=by show wrongM m=1;unfold wrongM;rw [if_pos (.inl h1)]
  go_enter Tryz.func110,Tryz.ntmps110
  go_wp2
  go_ret
  exact⟨ret_int HE.o.symm,grA⟩
 by_cases h2:7<m.kind
 ·have HE:Hid (wrongM m=1):=by show wrongM m=1;unfold wrongM;rw [if_pos (.inr h2)]
  go_enter Tryz.func110,Tryz.ntmps110
  go_wp2
  go_ret
  exact⟨ret_int HE.o.symm,grA⟩
 by_cases h3:m.deed<0
 ·have HE:Hid (wrongM m=3):=by show wrongM m=3;unfold wrongM;rw [if_neg (by omega),if_pos (.inl h3)]
  go_enter Tryz.func110,Tryz.ntmps110
  go_wp2
  go_ret
  exact⟨ret_int HE.o.symm,grA⟩
 by_cases h4:1343<m.deed
 ·have HE:Hid (wrongM m=3):=by show wrongM m=3;unfold wrongM;rw [if_neg (by omega),if_pos (by omega)]
  go_enter Tryz.func110,Tryz.ntmps110
  go_wp2
  go_ret
  exact⟨ret_int HE.o.symm,grA⟩
 by_cases h5:m.house<0
 ·have HE:Hid (wrongM m=3):=by show wrongM m=3;unfold wrongM;rw [if_neg (by omega),if_pos (by omega)]
  go_enter Tryz.func110,Tryz.ntmps110
  go_wp2
  go_ret
  exact⟨ret_int HE.o.symm,grA⟩
 by_cases h6:2<m.house
 ·have HE:Hid (wrongM m=3):=by show wrongM m=3;unfold wrongM;rw [if_neg (by omega),if_pos (by omega)]
  go_enter Tryz.func110,Tryz.ntmps110
  go_wp2
  go_ret
  exact⟨ret_int HE.o.symm,grA⟩
 by_cases h7:1<m.kind
 ·have hb1:(m.kind !=1)=true:=by rw [bne_iff_ne];omega
  by_cases h8:m.parts=[]
  ·have HE:Hid (wrongM m=0):=by show wrongM m=0;unfold wrongM;rw [if_neg (by omega),if_neg (by omega),if_pos h7,if_pos h8]
   have hl:m.parts.length=0:=by rw [h8];rfl
   clear h8
   generalize m.parts.length=n at*
   subst hl
   go_enter Tryz.func110,Tryz.ntmps110
   go_wp2
   go_ret
   exact⟨ret_int HE.o.symm,grA⟩
  ·have HE:Hid (wrongM m=5):=by show wrongM m=5;unfold wrongM;rw [if_neg (by omega),if_neg (by omega),if_pos h7,if_neg h8]
   have hl:0<m.parts.length:=List.length_pos_iff.2 h8
   clear h8
   go_enter Tryz.func110,Tryz.ntmps110
   go_wp2
   go_ret
   exact⟨ret_int HE.o.symm,grA⟩
 have hb1:(m.kind !=1)=false:=by simp;omega
 have HB:Hid (wrongM m=if wrongE m.parts 3=0 then(if m.parts.all (fun p=>p.h==m.house)=true then 0 else 3) else wrongE m.parts 3):=by
  show wrongM m=_
  unfold wrongM
  rw [if_neg (by omega),if_neg (by omega),if_neg h7]
 by_cases h8:wrongE m.parts 3=0
 ·have hb:(wrongE m.parts 3 !=0)=false:=by simp [h8]
  have hlen:m.parts.length≤4:=(wrong_ok h8).2.1
  have HO2:=η (HO.o (by omega))
  have HE:Hid (wrongM m=(if m.parts.all (fun p=>p.h==m.house)=true then 0 else 3)):=by show wrongM m=_;rw [HB.o,if_pos h8]
  have HC:=η (of_all (l:=m.parts) (n:=m.house))
  have HLE:Hid ((ofL m.parts m.house).length≤m.parts.length):=η (by unfold ofL;exact List.length_filter_le _ _)
  clear h8 HB hlen
  generalize wrongE m.parts 3=we at*
  go_enter Tryz.func110,Tryz.ntmps110
  go_wp2_with fail
  refine(HW.o _ ((Grow.refl _).alloc _)).mono ?_
  rintro e w1 ⟨rfl,hbw1⟩
  have R3:=η (row_grow (row_new w (.cells #[.int .i64 m.kind,.int .i64 m.deed,.int .i64 m.house,.slice ap m.parts.length cp] 95)) hbw1)
  have HB1:=η (((Grow.refl w).alloc (.cells #[.int .i64 m.kind,.int .i64 m.deed,.int .i64 m.house,.slice ap m.parts.length cp] 95)).trans hbw1)
  have z3:w.heap.size<w1.heap.size:=(γ R3.o)
  clear hbw1
  have HS:Hid (∀W,Grow w1 W→W.cell? ⟨w.heap.size,2,none⟩=some (.int .i64 m.house)∧W.cell? ⟨w.heap.size,3,none⟩=some (.slice ap m.parts.length cp)):=fun W hW=>by
   obtain⟨c0,c1,c2,c3⟩:=cells4 (row_grow R3.o hW)
   exact⟨c2,c3⟩
  have HO3:=η (fun(W:World) (hW:Grow w1 W)=>HO2.o W (HB1.o.trans hW))
  by_cases he:(ofL m.parts m.house).length=m.parts.length
  ·have HE2:Hid (wrongM m=0):=by show wrongM m=0;rw [HE.o,if_pos (HC.o.1 he)]
   have hb3:(((ofL m.parts m.house).length:Int) !=(m.parts.length:Int))=false:=by simp [he]
   clear he HC HE
   go_wp2
   go_region_held3 (fun w'=>w'.cell? ⟨w.heap.size,2,none⟩=some (.int .i64 m.house)∧w'.cell? ⟨w.heap.size,3,none⟩=some (.slice ap m.parts.length cp)) (first|assumption|exact HS.o _ grB) (first|(go_at_call 52;refine(HO3.o _ grB).mono ?_;rintro e w4 ⟨v4,rfl,ho4,hb4⟩;obtain⟨a4,k4,rfl⟩:=ho4.form;clear ho4))
   go_wp2
   go_ret
   exact⟨ret_int HE2.o.symm,HB1.o.trans grB⟩
  ·have HE2:Hid (wrongM m=3):=by show wrongM m=3;rw [HE.o,if_neg (fun h=>he (HC.o.2 h))]
   have hb3:(((ofL m.parts m.house).length:Int) !=(m.parts.length:Int))=true:=by rw [bne_iff_ne];omega
   clear he HC HE
   go_wp2
   go_region_held3 (fun w'=>w'.cell? ⟨w.heap.size,2,none⟩=some (.int .i64 m.house)∧w'.cell? ⟨w.heap.size,3,none⟩=some (.slice ap m.parts.length cp)) (first|assumption|exact HS.o _ grB) (first|(go_at_call 52;refine(HO3.o _ grB).mono ?_;rintro e w4 ⟨v4,rfl,ho4,hb4⟩;obtain⟨a4,k4,rfl⟩:=ho4.form;clear ho4))
   go_wp2
   go_ret
   exact⟨ret_int HE2.o.symm,HB1.o.trans grB⟩
 ·have hb:(wrongE m.parts 3 !=0)=true:=by simp [h8]
  have HE:Hid (wrongM m=wrongE m.parts 3):=by show wrongM m=_;rw [HB.o,if_neg h8]
  clear h8 HB
  generalize wrongE m.parts 3=we at*
  go_enter Tryz.func110,Tryz.ntmps110
  go_wp2_with fail
  refine(HW.o _ ((Grow.refl _).alloc _)).mono ?_
  rintro e w1 ⟨rfl,hbw1⟩
  have HB1:=η (((Grow.refl w).alloc (.cells #[.int .i64 m.kind,.int .i64 m.deed,.int .i64 m.house,.slice ap m.parts.length cp] 95)).trans hbw1)
  clear hbw1
  go_wp2
  go_ret
  exact⟨ret_int HE.o.symm,HB1.o⟩
theorem info_ms:(Tryz.prog.info? 95).map (·.size)=some 4:=by kernel_rfl
theorem of_ms0 (c:CM):Of Ty.ms c (.agg #[.int .i64 0,.int .i64 0,.int .i64 0,.slice none 0 0]) ms0:=⟨_,rfl,_,rfl,zero_ok,zero_ok,zero_ok,Sl.nil _ _⟩
theorem row_set4_3' {w:World} {B:Nat} {a b c d:Value} {t:TypeId} (h:w.heap[B]? =some (.cells #[a,b,c,d] t (0,0))) (u:Value):(w.setCell ⟨B,3,none⟩ u).heap[B]? =some (.cells #[a,b,c,u] t (0,0)):=by
 simp only [World.setCell,Array.getElem?_modify,h];simp
structure RSt (w wc:World) (B6 B7:Nat) (t:RS) (k d h:Int) (vp:Value) (ps:List Pt):Prop where
 res:wc.heap[w.heap.size]? =some (.cells #[.int .i64 0,.int .i64 0,.int .i64 0,.slice none 0 0] 95 (0,0))
 msg:wc.heap[B7]? =some (.cells #[.int .i64 k,.int .i64 d,.int .i64 h,vp] 95 (0,0))
 rdr:Rdr wc B6 w.cell? t
 own:wc.ownsRow (w.heap.size+1) 31 3 vp ps.length (ps.flatMap Pt.cells)
 grow:Grow w wc
 lo6:w.heap.size<B6
 lo7:w.heap.size<B7
 ne:B6≠B7
 dis:∀q,vp.ownBlock=some q→q≠B6∧q≠B7
theorem RSt.next {w wc w':World} {B6 B7:Nat} {t t':RS} {k d h:Int} {vp:Value} {ps:List Pt} (r:RSt w wc B6 B7 t k d h vp ps) (hr:Rdr w' B6 w.cell? t') (hg:wc.grownBy w' (some B6)):RSt w w' B6 B7 t' k d h vp ps where
 res:=row_by r.res hg (by have:=r.lo6;simp;omega)
 msg:=row_by r.msg hg (by have:=r.ne;simp;omega)
 rdr:=hr
 own:=r.own.kept hg (by
  cases e:vp.ownBlock with
  |none=>exact .inl rfl
  |some q=>exact .inr (by have:=(r.dis q e).1;simp;omega))
 grow:=r.grow.grown hg (fun q hq=>by have:=r.lo6;simp at hq;omega)
 lo6:=r.lo6
 lo7:=r.lo7
 ne:=r.ne
 dis:=r.dis
theorem RSt.part {w wc w1 w':World} {B6 B7:Nat} {t:RS} {k d h:Int} {vp:Value} {ps ps':List Pt} {a':Option Addr} {n c':Nat} (r:RSt w wc B6 B7 t k d h vp ps) (hG:Grow wc w1) (ho:w'.ownsRow (w.heap.size+1) 31 3 (.slice a' n c') ps'.length (ps'.flatMap Pt.cells)) (hg:w1.grownBy w' vp.ownBlock)
  (hb:(Value.slice a' n c').ownBlock=vp.ownBlock∨∃g,(Value.slice a' n c').ownBlock=some g∧w1.heap.size≤g):RSt w (w'.setCell ⟨B7,3,none⟩ (.slice a' n c')) B6 B7 t k d h (.slice a' n c') ps':=by
 have hlt:∀{B:Nat} {o:Obj},wc.heap[B]? =some o→B<wc.heap.size:=fun h=>(γ h)
 obtain⟨ra,rc,h1,h2⟩:=r.rdr
 have z6:=hlt h1
 have z7:=hlt r.msg
 have zg:=hG.size
 have hne6:some B6≠vp.ownBlock:=fun e=>(r.dis B6 e.symm).1 rfl
 have hne7:some B7≠vp.ownBlock:=fun e=>(r.dis B7 e.symm).2 rfl
 have hneR:some w.heap.size≠vp.ownBlock:=fun e=>by have:=(r.own.lt _ e.symm).1;omega
 have hlo7:=r.lo7
 have hne:=r.ne
 have hB:∀q,q≠B7→(w'.setCell ⟨B7,3,none⟩ (.slice a' n c')).heap[q]? =w'.heap[q]?:=fun q hq=>Below.heap_setCell _ _ _ _ (fun e=>hq e)
 have hdis:∀q,(Value.slice a' n c').ownBlock=some q→q≠B6∧q≠B7:=fun q hq=>by
  rcases hb with e|⟨g,e,hge⟩
  ·exact r.dis q (e.symm.trans hq)
  ·rw [e] at hq
   obtain rfl:=Option.some.inj hq
   constructor<;>omega
 refine⟨?_,?_,⟨ra,rc,?_,h2⟩,?_,?_,r.lo6,r.lo7,r.ne,hdis⟩
 ·rw [hB _ (by omega)];exact row_by (row_grow r.res hG) hg hneR
 ·exact row_set4_3' (row_by (row_grow r.msg hG) hg hne7) _
 ·rw [hB _ hne];exact row_by (row_grow h1 hG) hg hne6
 ·exact owns_block ho fun q hq=>hB q (hdis q hq).2
 ·exact((r.grow.trans hG).grown hg (fun q hq=>by have:=(r.own.lt q hq).1;omega)).setCell (by simp;omega) _
theorem sum_test {b:List UInt8} {e x y s:Nat} (hle:b.length=e+2) (hx:b[e]'(by omega)=UInt8.ofNat x) (hy:b[e+1]'(by omega)=UInt8.ofNat y) (hx2:x<256) (hy2:y<256) (hs:sumB (b.take e)=s):sumOk b=decide (s=256*x+y):=by
 have e1:b.getD e 0=UInt8.ofNat x:=by rw [List.getD_eq_getElem?_getD,List.getElem?_eq_getElem (by omega),hx];rfl
 have e2:b.getD (e+1) 0=UInt8.ofNat y:=by rw [List.getD_eq_getElem?_getD,List.getElem?_eq_getElem (by omega),hy];rfl
 unfold sumOk
 rw [hle,show e+2 - 2=e by omega,show e+2 - 1=e+1 by omega,e1,e2,hs,ofNat_small hx2,ofNat_small hy2]
theorem nextN3 (s:RS):nextN 3 s=([(nextE s).1,(nextE (nextE s).2).1,(nextE (nextE (nextE s).2).2).1],(nextE (nextE (nextE s).2).2).2):=rfl
theorem readB_3 {b:List UInt8} (h3:¬b.length<3) (hs:sumOk b=true) {s s3:RS} {d h n:Int} (e0:s=((b.take (b.length - 2)).drop 1,0)) (e1:nextN 3 s=([d,h,n],s3)):
  readB b=if s3.2=0∧(n<0∨4<n) then(ms0,5) else readP ⟨((b.getD 0 0).toNat:Nat),d,h,pairs h (nextN (2*n.toNat) s3).1⟩ (nextN (2*n.toNat) s3).2:=by
 rw [readB_E,if_neg h3,if_pos hs]
 unfold readE
 rw [←e0,e1]
 rfl
theorem next_zero {s:RS} (h:(nextE s).2.2≠0):(nextE s).1=0:=by
 unfold nextE at h ⊢
 split
 ·rfl
 ·split
  ·rfl
  ·rename_i h1 h2
   rw [if_neg h1,if_neg h2] at h
   exact absurd rfl h
theorem I64.of_next (s:RS):I64 (nextE s).1:=by
 have:=nextE_bound s
 exact i64_of (by omega) (by omega)
theorem pairs_ok {h:Int} (hh:I64 h) (s:RS):∀k,PtsOk (pairs h (nextN (2*k) s).1)
 |0=>fun p hp=>by simp [nextN,pairs] at hp
 |k+1=>fun p hp=>by
  rw [(pairs_next h k s).1] at hp
  rcases List.mem_append.1 hp with hp|hp
  ·exact pairs_ok hh s k p hp
  ·simp only [List.mem_singleton] at hp
   subst hp
   exact⟨hh,I64.of_next _,I64.of_next _⟩
theorem pairs_len (h:Int) (k:Nat) (s:RS):(pairs h (nextN (2*k) s).1).length=k:=(nums_pairs k (nextN_len _ _)).2
set_option maxRecDepth 100000 in
set_option maxHeartbeats 4000000 in
theorem wire_read {v:Value} {b:List UInt8} (w:World) (hv:Bts w.cell? v b):
  Calls Tryz.prog 70 #[v] w fun e w'=>∃v',e=.returned (.tuple #[v',.int .i64 (readB b).2])∧Of Ty.ms (ov (fun _=>none) w w') v' (readB b).1∧Grow w w':=by
 have HV:=η hv
 obtain⟨a,cap,rfl,h1,h2,-,hel⟩:=hv
 unfold maxLen at h2
 by_cases hl3:b.length<3
 ·have HE:Hid (readB b=(ms0,8)):=by show readB b=_;unfold readB;rw [if_pos hl3]
  have R2:=η (row_new w (.cells #[.int .i64 0,.int .i64 0,.int .i64 0,.slice none 0 0] 95))
  have G1:=η ((Grow.refl w).alloc (.cells #[.int .i64 0,.int .i64 0,.int .i64 0,.slice none 0 0] 95))
  clear hel
  go_enter Tryz.func70,Tryz.ntmps70
  go_wp2_with (first|(refine wpList_store_row rfl (.tmp 2) (.tmp 12) rfl rfl rfl R2.o info_ms rfl rfl ?_))
  intro w7 r7 g7
  obtain⟨p0,p1,p2,p3⟩:=cells4 r7
  go_wp2
  refine bodyPost_ret (v:=.tuple #[.agg #[.int .i64 0,.int .i64 0,.int .i64 0,.slice none 0 0],.int .i64 8]) (by simp [results,Tryz.results70,go_sem,p0,p1,p2,p3]) rfl ?_
  rw [HE.o]
  exact⟨_,rfl,of_ms0 _,G1.o.grown g7 (fun q hq=>by simp at hq;omega)⟩
 have HSM:=η (fun(W:World) (hW:Grow w W)=>wire_sum W ((HV.o.take' (b.length - 2) (by omega)).mono hW.sub))
 obtain⟨bb,o,rfl,c0⟩:=byteAt hel 0 (by omega)
 obtain⟨bb',o',he,cx⟩:=byteAt hel (b.length - 2) (by omega)
 obtain⟨rfl,rfl⟩:bb=bb'∧o=o':=by simpa using he
 obtain⟨bb',o',he',cy⟩:=byteAt hel (b.length - 1) (by omega)
 obtain⟨rfl,rfl⟩:bb=bb'∧o=o':=by simpa using he'
 clear he he' hel
 obtain⟨e,hle⟩:∃e,b.length=e+2:=⟨b.length - 2,by omega⟩
 obtain⟨x,hx⟩:∃x,x=(b[b.length - 2]'(by omega)).toNat:=⟨_,rfl⟩
 obtain⟨y,hy⟩:∃x,x=(b[b.length - 1]'(by omega)).toNat:=⟨_,rfl⟩
 obtain⟨z,hz⟩:∃x,x=(b[0]'(by omega)).toNat:=⟨_,rfl⟩
 obtain⟨s,hs⟩:∃s,s=sumB (b.take (b.length - 2)):=⟨_,rfl⟩
 have hx2:x<256:=by rw [hx];exact UInt8.toNat_lt _
 have hy2:y<256:=by rw [hy];exact UInt8.toNat_lt _
 have hz2:z<256:=by rw [hz];exact UInt8.toNat_lt _
 have hs1:s<65521:=by rw [hs];exact sumB_lt _
 have hok:sumOk b=decide (s=256*x+y):=by
  refine sum_test (e:=e) hle ?_ ?_ hx2 hy2 (by rw [hs];congr 2;omega)
  ·rw [hx];simp [hle]
  ·rw [hy];simp [hle]
 have HZ:Hid (((b.getD 0 0).toNat:Nat)=z):=η (by rw [hz,List.getD_eq_getElem?_getD,List.getElem?_eq_getElem (by omega)];rfl)
 rw [←hx] at cx
 rw [←hy] at cy
 rw [←hz] at c0
 rw [←hs] at HSM
 rw [show b.length - 2=e by omega] at cx HSM
 rw [show b.length - 1=e+1 by omega] at cy
 have HL3:=η hl3
 have HSL:=η (HV.o.take' (b.length - 2) (by omega))
 rw [show b.length - 2=e by omega] at HSL
 have HTD:Hid (b.take (b.length - 2)=b.take e):=η (by congr 1;omega)
 have HTL:Hid ((b.take e).length=e):=η (by rw [List.length_take];omega)
 rw [hle] at hl3 h1 ⊢
 clear hx hy hz hs hle
 have hc1:¬cap=1:=by omega
 have hsx:(x:Int)=(s:Int)/256∧(y:Int)=(s:Int) % 256↔s=256*x+y:=by omega
 have HOK:=η hok
 clear hok
 by_cases ht:s=256*x+y
 ·have HOT:=η (show sumOk b=true by rw [HOK.o];exact decide_eq_true ht)
  have hbx:((x:Int) !=(s:Int)/256)=false:=by have:=(hsx.2 ht).1;simp [this]
  have hby:((y:Int) !=(s:Int) % 256)=false:=by have:=(hsx.2 ht).2;simp [this]
  clear hsx HOK ht
  go_enter Tryz.func70,Tryz.ntmps70
  go_wp2_with fail
  refine(HSM.o _ ((Grow.refl _).alloc _)).mono ?_
  rintro e0 w1 ⟨rfl,hb1⟩
  have R2:=η (row_grow (row_new w (.cells #[.int .i64 0,.int .i64 0,.int .i64 0,.slice none 0 0] 95)) hb1)
  have G1:=η (((Grow.refl w).alloc (.cells #[.int .i64 0,.int .i64 0,.int .i64 0,.slice none 0 0] 95)).trans hb1)
  have HC0:=η c0
  replace c0:=G1.o.sub _ _ c0
  replace cx:=G1.o.sub _ _ cx
  replace cy:=G1.o.sub _ _ cy
  have z2:w.heap.size<w1.heap.size:=(γ R2.o)
  have Z2:=η z2
  clear hb1
  go_wp2_with fail
  obtain⟨wa,hwa⟩:∃x:World,x=w1.alloc (.cells #[.slice (some ⟨bb,o+1,none⟩) (e - 1) (cap - 1),.int .i64 0] 178):=⟨_,rfl⟩
  have RA:Hid (Rdr wa w1.heap.size w.cell? ((b.take e).drop 1,0)):=η (by
   rw [hwa]
   have h9:=HSL.o.drop 1 (by omega)
   have e9:((b.take e).drop 1).length=e - 1:=by rw [List.length_drop,HTL.o]
   refine⟨some ⟨bb,o+1,none⟩,cap - 1,?_,?_⟩
   ·rw [show(List.drop 1 (List.take e b),(0:Int)).1.length=e - 1 from e9];exact row_new _ _
   ·rw [show(List.drop 1 (List.take e b),(0:Int)).1.length=e - 1 from e9];simpa [Ty.byte] using h9)
  have GA:Hid (Grow w wa):=η (by rw [hwa];exact G1.o.alloc _)
  have R2A:Hid (wa.heap[w.heap.size]? =some (.cells #[.int .i64 0,.int .i64 0,.int .i64 0,.slice none 0 0] 95 (0,0))):=η (by rw [hwa];exact heap_later R2.o _)
  rw [←hwa]
  clear hwa
  obtain⟨B6,hB6⟩:∃B,B=w1.heap.size:=⟨_,rfl⟩
  rw [←hB6] at RA ⊢
  have H6:Hid (w.heap.size<B6):=η (by rw [hB6];exact Z2.o)
  clear hB6 c0 cx cy hbx hby z2 Z2 R2
  go_cut [7] from 44 (fun s7 wc=>∃B7,s7=.pointer (some ⟨B7,0,none⟩)∧RSt w wc B6 B7 (nextE (nextE ((b.take e).drop 1,0)).2).2 z (nextE ((b.take e).drop 1,0)).1 (nextE (nextE ((b.take e).drop 1,0)).2).1 (.slice none 0 0) [])
  case first=>
   generalize ((b.take e).drop 1,(0:Int))=t0 at*
   have hzw:IntKind.i64.wrap (z:Int)=(z:Int):=IntWalk.i64_in _ (by omega)
   have he0:(0:Int)<(e:Int)+2:=by omega
   have HB:Hid (∀a u,w.cell? a=some u→a.block≠B6):=fun a u h9=>by have:=World.block_lt_of_cell? w a h9;have:=H6.o;omega
   refine but_start (fun w'=>w'.cell? ⟨bb,o,none⟩=some (.int .u8 z)) 10 (by kernel_rfl) ?_
   obtain⟨wd,hWd⟩:∃x:World,x=wa.drew:=⟨_,rfl⟩
   rw [←hWd]
   have GD:Grow wa wd:=by rw [hWd];exact(Grow.refl _).drew
   have zD:wa.heap.size=wd.heap.size:=by rw [hWd];rfl
   have ZD:=η zD
   clear hWd zD
   refine bLm [0,1,2,3,4,6] 13 (by kernel_rfl) (fun _ _ _ _ _ h=>h) ((GA.o.trans GD).sub _ _ HC0.o) ?_
   repeat (refine tNm (v:=?_) rfl (by rfl) ?_ ?_;rotate_left;(· (intro w' hSw;(try dsimp only at hSw);go_simp<;>with_reducible rfl));try simp only [Act.put,lzA,lzB,lzC,lzD,lzE,lzF])
   refine tEm ?_
   refine bP 5 9 (by kernel_rfl) rfl rfl ?_ ?_
   ·intro K HK
    try simp only [lzA,lzB,lzC]
    go_simp
    go_at_call 109
    refine(wire_next (c:=w.cell?) (RA.o.grow GD) ((GA.o.trans GD)).sub).mono ?_
    rintro ec1 c1 ⟨rfl,hr,hg⟩
    have G_c1:=η ((GA.o.trans GD).grown hg (fun q hq=>by have:=H6.o;simp at hq;omega))
    have R2_c1:=η (row_by (row_grow R2A.o GD) hg (by have:=H6.o;intro e9;have:=Option.some.inj e9;omega))
    have RD_c1:=η hr
    clear hr hg
    refine HK.o _ _ ⟨fun _=>G_c1.o.sub _ _ HC0.o,?_⟩
    clear HK K
    try simp only [Act.put,lzA,lzB,lzC,lzD,lzE,lzF]
    refine bP 7 9 (by kernel_rfl) rfl rfl ?_ ?_
    ·intro K HK
     try simp only [lzA,lzB,lzC]
     go_simp
     go_at_call 109
     refine(wire_next (c:=w.cell?) RD_c1.o (G_c1.o).sub).mono ?_
     rintro ec2 c2 ⟨rfl,hr,hg⟩
     have G_c2:=η (G_c1.o.grown hg (fun q hq=>by have:=H6.o;simp at hq;omega))
     have R2_c2:=η (row_by R2_c1.o hg (by have:=H6.o;intro e9;have:=Option.some.inj e9;omega))
     have RD_c2:=η hr
     clear hr hg
     refine HK.o _ _ ⟨fun _=>G_c2.o.sub _ _ HC0.o,?_⟩
     clear HK K
     try simp only [Act.put,lzA,lzB,lzC,lzD,lzE,lzF]
     refine bP 8 9 (by kernel_rfl) rfl rfl ?_ ?_
     ·intro K HK
      try simp only [lzA,lzB,lzC]
      go_simp
      refine HK.o _ _ ⟨fun _=>G_c2.o.sub _ _ HC0.o,?_⟩
      clear HK K
      try simp only [Act.put,lzA,lzB,lzC,lzD,lzE,lzF]
      refine bO 9 (by kernel_rfl) rfl ?_
      intro K HK
      try simp only [lzA,lzB,lzC]
      go_simp
      obtain⟨c3,hc3⟩:∃x:World,x=c2.alloc (.cells #[.int .i64 0,.int .i64 0,.int .i64 0,.slice none 0 0] 95):=⟨_,rfl⟩
      obtain⟨B7,hB7⟩:∃B,B=c2.heap.size:=⟨_,rfl⟩
      rw [←hc3,←hB7]
      have G_c3:Hid (Grow w c3):=η (by rw [hc3];exact(G_c2.o).alloc _)
      have R2_c3:Hid (c3.heap[w.heap.size]? =some (.cells #[.int .i64 0,.int .i64 0,.int .i64 0,.slice none 0 0] 95 (0,0))):=η (by rw [hc3];exact heap_later R2_c2.o _)
      have R7_c3:Hid (c3.heap[B7]? =some (.cells #[.int .i64 0,.int .i64 0,.int .i64 0,.slice none 0 0] 95 (0,0))):=η (by rw [hc3,hB7];exact row_new _ _)
      have RD_c3:Hid (Rdr c3 B6 w.cell? (nextE (nextE t0).2).2):=η (by rw [hc3];exact RD_c2.o.grow ((Grow.refl _).alloc _))
      have HNE:Hid (B6≠B7∧w.heap.size<B7):=η (by obtain⟨ra,rc,rh,-⟩:=RD_c2.o;have:=(γ rh);have:=H6.o;omega)
      clear hc3 hB7
      refine HK.o _ _ ⟨fun _=>G_c3.o.sub _ _ HC0.o,?_⟩
      clear HK K
      try simp only [Act.put,lzA,lzB,lzC,lzD,lzE,lzF]
      refine bO 10 (by kernel_rfl) rfl ?_
      intro K HK
      refine wanted_go rfl ?_
      try simp only [lzA,lzB,lzC]
      refine wp_store_row (.tmp 7) (.tmp 52) rfl rfl rfl R7_c3.o info_ms rfl rfl ?_
      intro wz rz gz
      refine HK.o _ _ ⟨fun h=>absurd rfl h,?_⟩
      clear HK K
      try simp only [Act.put]
      refine but_done (by kernel_rfl) ?_
      go_wp2
      go_meet
      case rel=>
       refine⟨B7,rfl,row_by R2_c3.o gz (by have:=HNE.o.2;intro e9;have:=Option.some.inj e9;omega),rz,?_,World.ownsRow_nil _ _ _ _,G_c3.o.grown gz (fun q hq=>by have:=HNE.o.2;simp at hq;omega),H6.o,HNE.o.2,HNE.o.1,fun q hq=>by simp [Value.ownBlock] at hq⟩
       obtain⟨ra,rc,rh,rl⟩:=RD_c3.o
       exact⟨ra,rc,row_by rh gz (by have:=HNE.o.1;intro e9;have:=Option.some.inj e9;omega),rl⟩
     ·intro K HK
      try simp only [lzA,lzB,lzC]
      go_simp
      obtain⟨c4,hc4⟩:∃x:World,x=c2.alloc (.cells #[.int .i64 0,.int .i64 0,.int .i64 0,.slice none 0 0] 95):=⟨_,rfl⟩
      obtain⟨B7,hB7⟩:∃B,B=c2.heap.size:=⟨_,rfl⟩
      rw [←hc4,←hB7]
      have G_c4:Hid (Grow w c4):=η (by rw [hc4];exact(G_c2.o).alloc _)
      have R2_c4:Hid (c4.heap[w.heap.size]? =some (.cells #[.int .i64 0,.int .i64 0,.int .i64 0,.slice none 0 0] 95 (0,0))):=η (by rw [hc4];exact heap_later R2_c2.o _)
      have R7_c4:Hid (c4.heap[B7]? =some (.cells #[.int .i64 0,.int .i64 0,.int .i64 0,.slice none 0 0] 95 (0,0))):=η (by rw [hc4,hB7];exact row_new _ _)
      have RD_c4:Hid (Rdr c4 B6 w.cell? (nextE (nextE t0).2).2):=η (by rw [hc4];exact RD_c2.o.grow ((Grow.refl _).alloc _))
      have HNE:Hid (B6≠B7∧w.heap.size<B7):=η (by obtain⟨ra,rc,rh,-⟩:=RD_c2.o;have:=(γ rh);have:=H6.o;omega)
      clear hc4 hB7
      refine HK.o _ _ ⟨fun _=>G_c4.o.sub _ _ HC0.o,?_⟩
      clear HK K
      try simp only [Act.put,lzA,lzB,lzC,lzD,lzE,lzF]
      refine bO 8 (by kernel_rfl) rfl ?_
      intro K HK
      try simp only [lzA,lzB,lzC]
      go_simp
      refine HK.o _ _ ⟨fun _=>G_c4.o.sub _ _ HC0.o,?_⟩
      clear HK K
      try simp only [Act.put,lzA,lzB,lzC,lzD,lzE,lzF]
      refine bO 10 (by kernel_rfl) rfl ?_
      intro K HK
      refine wanted_go rfl ?_
      try simp only [lzA,lzB,lzC]
      refine wp_store_row (.tmp 7) (.tmp 52) rfl rfl rfl R7_c4.o info_ms rfl rfl ?_
      intro wz rz gz
      refine HK.o _ _ ⟨fun h=>absurd rfl h,?_⟩
      clear HK K
      try simp only [Act.put]
      refine but_done (by kernel_rfl) ?_
      go_wp2
      go_meet
      case rel=>
       refine⟨B7,rfl,row_by R2_c4.o gz (by have:=HNE.o.2;intro e9;have:=Option.some.inj e9;omega),rz,?_,World.ownsRow_nil _ _ _ _,G_c4.o.grown gz (fun q hq=>by have:=HNE.o.2;simp at hq;omega),H6.o,HNE.o.2,HNE.o.1,fun q hq=>by simp [Value.ownBlock] at hq⟩
       obtain⟨ra,rc,rh,rl⟩:=RD_c4.o
       exact⟨ra,rc,row_by rh gz (by have:=HNE.o.1;intro e9;have:=Option.some.inj e9;omega),rl⟩
    ·intro K HK
     try simp only [lzA,lzB,lzC]
     go_simp
     obtain⟨c5,hc5⟩:∃x:World,x=c1.alloc (.cells #[.int .i64 0,.int .i64 0,.int .i64 0,.slice none 0 0] 95):=⟨_,rfl⟩
     obtain⟨B7,hB7⟩:∃B,B=c1.heap.size:=⟨_,rfl⟩
     rw [←hc5,←hB7]
     have G_c5:Hid (Grow w c5):=η (by rw [hc5];exact(G_c1.o).alloc _)
     have R2_c5:Hid (c5.heap[w.heap.size]? =some (.cells #[.int .i64 0,.int .i64 0,.int .i64 0,.slice none 0 0] 95 (0,0))):=η (by rw [hc5];exact heap_later R2_c1.o _)
     have R7_c5:Hid (c5.heap[B7]? =some (.cells #[.int .i64 0,.int .i64 0,.int .i64 0,.slice none 0 0] 95 (0,0))):=η (by rw [hc5,hB7];exact row_new _ _)
     have RD_c5:Hid (Rdr c5 B6 w.cell? (nextE t0).2):=η (by rw [hc5];exact RD_c1.o.grow ((Grow.refl _).alloc _))
     have HNE:Hid (B6≠B7∧w.heap.size<B7):=η (by obtain⟨ra,rc,rh,-⟩:=RD_c1.o;have:=(γ rh);have:=H6.o;omega)
     clear hc5 hB7
     refine HK.o _ _ ⟨fun _=>G_c5.o.sub _ _ HC0.o,?_⟩
     clear HK K
     try simp only [Act.put,lzA,lzB,lzC,lzD,lzE,lzF]
     refine bO 7 (by kernel_rfl) rfl ?_
     intro K HK
     try simp only [lzA,lzB,lzC]
     go_simp
     go_at_call 109
     refine(wire_next (c:=w.cell?) RD_c5.o (G_c5.o).sub).mono ?_
     rintro ec6 c6 ⟨rfl,hr,hg⟩
     have G_c6:=η (G_c5.o.grown hg (fun q hq=>by have:=H6.o;simp at hq;omega))
     have R2_c6:=η (row_by R2_c5.o hg (by have:=H6.o;intro e9;have:=Option.some.inj e9;omega))
     have R7_c6:=η (row_by R7_c5.o hg (by have:=HNE.o.1;intro e9;have:=Option.some.inj e9;omega))
     have RD_c6:=η hr
     clear hr hg
     refine HK.o _ _ ⟨fun _=>G_c6.o.sub _ _ HC0.o,?_⟩
     clear HK K
     try simp only [Act.put,lzA,lzB,lzC,lzD,lzE,lzF]
     refine bO 8 (by kernel_rfl) rfl ?_
     intro K HK
     try simp only [lzA,lzB,lzC]
     go_simp
     refine HK.o _ _ ⟨fun _=>G_c6.o.sub _ _ HC0.o,?_⟩
     clear HK K
     try simp only [Act.put,lzA,lzB,lzC,lzD,lzE,lzF]
     refine bO 10 (by kernel_rfl) rfl ?_
     intro K HK
     refine wanted_go rfl ?_
     try simp only [lzA,lzB,lzC]
     refine wp_store_row (.tmp 7) (.tmp 52) rfl rfl rfl R7_c6.o info_ms rfl rfl ?_
     intro wz rz gz
     refine HK.o _ _ ⟨fun h=>absurd rfl h,?_⟩
     clear HK K
     try simp only [Act.put]
     refine but_done (by kernel_rfl) ?_
     go_wp2
     go_meet
     case rel=>
      refine⟨B7,rfl,row_by R2_c6.o gz (by have:=HNE.o.2;intro e9;have:=Option.some.inj e9;omega),rz,?_,World.ownsRow_nil _ _ _ _,G_c6.o.grown gz (fun q hq=>by have:=HNE.o.2;simp at hq;omega),H6.o,HNE.o.2,HNE.o.1,fun q hq=>by simp [Value.ownBlock] at hq⟩
      obtain⟨ra,rc,rh,rl⟩:=RD_c6.o
      exact⟨ra,rc,row_by rh gz (by have:=HNE.o.1;intro e9;have:=Option.some.inj e9;omega),rl⟩
   ·intro K HK
    try simp only [lzA,lzB,lzC]
    go_simp
    obtain⟨c7,hc7⟩:∃x:World,x=wd.alloc (.cells #[.int .i64 0,.int .i64 0,.int .i64 0,.slice none 0 0] 95):=⟨_,rfl⟩
    obtain⟨B7,hB7⟩:∃B,B=wd.heap.size:=⟨_,rfl⟩
    rw [←hc7,←hB7]
    have G_c7:Hid (Grow w c7):=η (by rw [hc7];exact((GA.o.trans GD)).alloc _)
    have R2_c7:Hid (c7.heap[w.heap.size]? =some (.cells #[.int .i64 0,.int .i64 0,.int .i64 0,.slice none 0 0] 95 (0,0))):=η (by rw [hc7];exact heap_later (row_grow R2A.o GD) _)
    have R7_c7:Hid (c7.heap[B7]? =some (.cells #[.int .i64 0,.int .i64 0,.int .i64 0,.slice none 0 0] 95 (0,0))):=η (by rw [hc7,hB7];exact row_new _ _)
    have RD_c7:Hid (Rdr c7 B6 w.cell? t0):=η (by rw [hc7];exact(RA.o.grow GD).grow ((Grow.refl _).alloc _))
    have HNE:Hid (B6≠B7∧w.heap.size<B7):=η (by obtain⟨ra,rc,rh,-⟩:=(RA.o.grow GD);have:=(γ rh);have:=H6.o;omega)
    clear hc7 hB7
    refine HK.o _ _ ⟨fun _=>G_c7.o.sub _ _ HC0.o,?_⟩
    clear HK K
    try simp only [Act.put,lzA,lzB,lzC,lzD,lzE,lzF]
    refine bO 5 (by kernel_rfl) rfl ?_
    intro K HK
    try simp only [lzA,lzB,lzC]
    go_simp
    go_at_call 109
    refine(wire_next (c:=w.cell?) RD_c7.o (G_c7.o).sub).mono ?_
    rintro ec8 c8 ⟨rfl,hr,hg⟩
    have G_c8:=η (G_c7.o.grown hg (fun q hq=>by have:=H6.o;simp at hq;omega))
    have R2_c8:=η (row_by R2_c7.o hg (by have:=H6.o;intro e9;have:=Option.some.inj e9;omega))
    have R7_c8:=η (row_by R7_c7.o hg (by have:=HNE.o.1;intro e9;have:=Option.some.inj e9;omega))
    have RD_c8:=η hr
    clear hr hg
    refine HK.o _ _ ⟨fun _=>G_c8.o.sub _ _ HC0.o,?_⟩
    clear HK K
    try simp only [Act.put,lzA,lzB,lzC,lzD,lzE,lzF]
    refine bO 7 (by kernel_rfl) rfl ?_
    intro K HK
    try simp only [lzA,lzB,lzC]
    go_simp
    go_at_call 109
    refine(wire_next (c:=w.cell?) RD_c8.o (G_c8.o).sub).mono ?_
    rintro ec9 c9 ⟨rfl,hr,hg⟩
    have G_c9:=η (G_c8.o.grown hg (fun q hq=>by have:=H6.o;simp at hq;omega))
    have R2_c9:=η (row_by R2_c8.o hg (by have:=H6.o;intro e9;have:=Option.some.inj e9;omega))
    have R7_c9:=η (row_by R7_c8.o hg (by have:=HNE.o.1;intro e9;have:=Option.some.inj e9;omega))
    have RD_c9:=η hr
    clear hr hg
    refine HK.o _ _ ⟨fun _=>G_c9.o.sub _ _ HC0.o,?_⟩
    clear HK K
    try simp only [Act.put,lzA,lzB,lzC,lzD,lzE,lzF]
    refine bO 8 (by kernel_rfl) rfl ?_
    intro K HK
    try simp only [lzA,lzB,lzC]
    go_simp
    refine HK.o _ _ ⟨fun _=>G_c9.o.sub _ _ HC0.o,?_⟩
    clear HK K
    try simp only [Act.put,lzA,lzB,lzC,lzD,lzE,lzF]
    refine bO 10 (by kernel_rfl) rfl ?_
    intro K HK
    refine wanted_go rfl ?_
    try simp only [lzA,lzB,lzC]
    refine wp_store_row (.tmp 7) (.tmp 52) rfl rfl rfl R7_c9.o info_ms rfl rfl ?_
    intro wz rz gz
    refine HK.o _ _ ⟨fun h=>absurd rfl h,?_⟩
    clear HK K
    try simp only [Act.put]
    refine but_done (by kernel_rfl) ?_
    go_wp2
    go_meet
    case rel=>
     refine⟨B7,rfl,row_by R2_c9.o gz (by have:=HNE.o.2;intro e9;have:=Option.some.inj e9;omega),rz,?_,World.ownsRow_nil _ _ _ _,G_c9.o.grown gz (fun q hq=>by have:=HNE.o.2;simp at hq;omega),H6.o,HNE.o.2,HNE.o.1,fun q hq=>by simp [Value.ownBlock] at hq⟩
     obtain⟨ra,rc,rh,rl⟩:=RD_c9.o
     exact⟨ra,rc,row_by rh gz (by have:=HNE.o.1;intro e9;have:=Option.some.inj e9;omega),rl⟩
  case rest=>
  obtain⟨B7,rfl,hst⟩:=hcut
  have HST:=η hst
  have HRB:Hid (readB b=if(nextE (nextE (nextE ((b.take e).drop 1,0)).2).2).2.2=0∧((nextE (nextE (nextE ((b.take e).drop 1,0)).2).2).1<0∨4<(nextE (nextE (nextE ((b.take e).drop 1,0)).2).2).1) then(ms0,5)
   else readP ⟨z,(nextE ((b.take e).drop 1,0)).1,(nextE (nextE ((b.take e).drop 1,0)).2).1,pairs (nextE (nextE ((b.take e).drop 1,0)).2).1 (nextN (2*(nextE (nextE (nextE ((b.take e).drop 1,0)).2).2).1.toNat) (nextE (nextE (nextE ((b.take e).drop 1,0)).2).2).2).1⟩ (nextN (2*(nextE (nextE (nextE ((b.take e).drop 1,0)).2).2).1.toNat) (nextE (nextE (nextE ((b.take e).drop 1,0)).2).2).2).2):=η (by
   rw [readB_3 HL3.o HOT.o (s:=((b.take e).drop 1,0)) (by rw [HTD.o]) (nextN3 _),HZ.o])
  have HID:=η (I64.of_next ((b.take e).drop 1,0))
  have HIH:=η (I64.of_next (nextE ((b.take e).drop 1,0)).2)
  have HIZ:Hid (I64 (z:Int)):=η (i64_of (by omega) (by omega))
  clear hst RA GA R2A
  generalize (nextE (nextE ((b.take e).drop 1,0)).2).1=h at*
  generalize (nextE (nextE ((b.take e).drop 1,0)).2).2=t2 at*
  generalize (nextE ((b.take e).drop 1,0)).1=d at*
  go_wp2_with fail
  refine(wire_next (c:=w.cell?) HST.o.rdr HST.o.grow.sub).mono ?_
  rintro e9 w9 ⟨rfl,hr,hg⟩
  have H9:=η (HST.o.next hr hg)
  have hnz:=next_zero (s:=t2)
  have hnb:=nextE_bound t2
  clear hr hg
  generalize (nextE t2).1=n at*
  generalize (nextE t2).2=s3 at*
  obtain⟨ra,rc,hrow,-⟩:=H9.o.rdr
  obtain⟨q0,q1⟩:=cells2 hrow
  have z6:B6<w9.heap.size:=(γ hrow)
  have R2:=η H9.o.res
  have G9:=η H9.o.grow
  clear hrow
  by_cases he3:s3.2=0
  ·have hbe:(s3.2==0)=true:=by simp [he3]
   by_cases hn0:n<0
   ·have HE:Hid (readB b=(ms0,5)):=η (by rw [HRB.o,if_pos ⟨he3,.inl hn0⟩])
    clear he3 hnz
    go_wp2_with (first|(refine wpList_store_row rfl (.tmp 2) (.tmp 68) rfl rfl rfl R2.o info_ms rfl rfl ?_))
    intro w7 r7 g7
    obtain⟨p0,p1,p2,p3⟩:=cells4 r7
    go_wp2
    refine bodyPost_ret (v:=.tuple #[.agg #[.int .i64 0,.int .i64 0,.int .i64 0,.slice none 0 0],.int .i64 5]) (by simp [results,Tryz.results70,go_sem,p0,p1,p2,p3]) rfl ?_
    rw [HE.o]
    exact⟨_,rfl,of_ms0 _,G9.o.grown g7 (fun q hq=>by simp at hq;omega)⟩
   by_cases hn4:4<n
   ·have HE:Hid (readB b=(ms0,5)):=η (by rw [HRB.o,if_pos ⟨he3,.inr hn4⟩])
    clear he3 hnz
    go_wp2_with (first|(refine wpList_store_row rfl (.tmp 2) (.tmp 68) rfl rfl rfl R2.o info_ms rfl rfl ?_))
    intro w7 r7 g7
    obtain⟨p0,p1,p2,p3⟩:=cells4 r7
    go_wp2
    refine bodyPost_ret (v:=.tuple #[.agg #[.int .i64 0,.int .i64 0,.int .i64 0,.slice none 0 0],.int .i64 5]) (by simp [results,Tryz.results70,go_sem,p0,p1,p2,p3]) rfl ?_
    rw [HE.o]
    exact⟨_,rfl,of_ms0 _,G9.o.grown g7 (fun q hq=>by simp at hq;omega)⟩
   obtain⟨N,rfl⟩:∃N:Nat,n=N:=⟨n.toNat,by omega⟩
   have HRB2:Hid (readB b=readP ⟨z,d,h,pairs h (nextN (2*N) s3).1⟩ (nextN (2*N) s3).2):=η (by rw [HRB.o,if_neg (by omega),Int.toNat_natCast])
   clear he3 hnz hnb HRB
   go_wp2
   go_loopw [70] (fun i wr=>∃(k:Nat) (vp:Value),k≤N∧i=.int .i64 k∧RSt w wr B6 B7 (nextN (2*k) s3).2 z d h vp (pairs h (nextN (2*k) s3).1)) (fun i _=>N - (intOf i).toNat)
   case atStart=>exact⟨0,_,by omega,rfl,H9.o⟩
   case round=>
    obtain⟨k,vp,hk',rfl,hr⟩:=hrel
    obtain⟨ap,cp,rfl⟩:=owns_form hr.own
    have HR:=η hr
    clear q0 q1
    by_cases hlt:k<N
    ·have HPN:=η (pairs_next h k s3)
     have HPK:=η (pairs_len h k s3)
     have HI1:=η (I64.of_next (nextN (2*k) s3).2)
     have HI2:=η (I64.of_next (nextE (nextN (2*k) s3).2).2)
     clear hr
     generalize (nextN (2*k) s3).2=t at*
     generalize pairs h (nextN (2*k) s3).1=ps at*
     have HS:Hid (∀W,(∃t' k' d',RSt w W B6 B7 t' k' d' h (.slice ap ps.length cp) ps)→W.cell? ⟨B7,2,none⟩=some (.int .i64 h)∧W.cell? ⟨B7,3,none⟩=some (.slice ap ps.length cp)):=fun W ⟨_,_,_,hW⟩=>by
      obtain⟨-,-,m2,m3⟩:=cells4 hW.msg
      exact⟨m2,m3⟩
     go_wp2
     refine but_start (fun w'=>w'.cell? ⟨B7,2,none⟩=some (.int .i64 h)∧w'.cell? ⟨B7,3,none⟩=some (.slice ap ps.length cp)) 12 (by kernel_rfl) ?_
     obtain⟨wd,hWd⟩:∃x:World,x=wr.drew:=⟨_,rfl⟩
     rw [←hWd]
     have GD:Grow wr wd:=by rw [hWd];exact(Grow.refl _).drew
     have zD:wr.heap.size=wd.heap.size:=by rw [hWd];rfl
     have ZD:=η zD
     have RD0:Hid (RSt w wd B6 B7 t z d h (.slice ap ps.length cp) ps):=η (HR.o.next (HR.o.rdr.grow GD) (grownBy_of_grow GD _))
     clear hWd zD
     refine bLm [0,1,2,3,4,6] 15 (by kernel_rfl) (fun _ _ _ _ _ h=>h) (HS.o _ ⟨_,_,_,RD0.o⟩) ?_
     repeat (refine tNm (v:=?_) rfl (by rfl) ?_ ?_;rotate_left;(· (intro w' hSw;(try dsimp only at hSw);obtain⟨hs0,hs1⟩:=hSw;go_simp<;>with_reducible rfl));try simp only [Act.put,lzA,lzB,lzC,lzD,lzE,lzF])
     refine tEm ?_
     refine bO 5 (by kernel_rfl) rfl ?_
     intro K HK
     try simp only [lzA,lzB,lzC]
     go_simp
     go_at_call 109
     refine(wire_next (c:=w.cell?) RD0.o.rdr RD0.o.grow.sub).mono ?_
     rintro ex5 x5 ⟨rfl,hr,hg⟩
     have Sx5:=η (RD0.o.next hr hg)
     clear hr hg
     refine HK.o _ _ ⟨fun _=>HS.o _ ⟨_,_,_,Sx5.o⟩,?_⟩
     clear HK K
     try simp only [Act.put,lzA,lzB,lzC,lzD,lzE,lzF]
     refine bO 7 (by kernel_rfl) rfl ?_
     intro K HK
     try simp only [lzA,lzB,lzC]
     go_simp
     go_at_call 109
     refine(wire_next (c:=w.cell?) Sx5.o.rdr Sx5.o.grow.sub).mono ?_
     rintro ex7 x7 ⟨rfl,hr,hg⟩
     have Sx7:=η (Sx5.o.next hr hg)
     clear hr hg
     refine HK.o _ _ ⟨fun _=>HS.o _ ⟨_,_,_,Sx7.o⟩,?_⟩
     clear HK K
     try simp only [Act.put,lzA,lzB,lzC,lzD,lzE,lzF]
     refine bO 8 (by kernel_rfl) rfl ?_
     intro K HK
     try simp only [lzA,lzB,lzC]
     go_simp
     refine HK.o _ _ ⟨fun _=>HS.o _ ⟨_,_,_,Sx7.o⟩,?_⟩
     clear HK K
     try simp only [Act.put,lzA,lzB,lzC,lzD,lzE,lzF]
     refine bO 9 (by kernel_rfl) rfl ?_
     intro K HK
     try simp only [lzA,lzB,lzC]
     go_simp
     obtain⟨y9,hy9⟩:∃x:World,x=x7.alloc (.cells #[.int .i64 h,.int .i64 (nextE t).1,.int .i64 (nextE (nextE t).2).1] 31):=⟨_,rfl⟩
     have GY:Grow x7 y9:=by rw [hy9];exact(Grow.refl _).alloc _
     have RY:y9.heap[x7.heap.size]? =some (.cells #[.int .i64 h,.int .i64 (nextE t).1,.int .i64 (nextE (nextE t).2).1] 31 (0,0)):=by rw [hy9];exact row_new _ _
     have HY:=η (And.intro GY RY)
     rw [←hy9]
     clear hy9 GY RY
     refine HK.o _ _ ⟨fun _=>⟨(cells4 (row_grow Sx7.o.msg HY.o.1)).2.2.1,(cells4 (row_grow Sx7.o.msg HY.o.1)).2.2.2⟩,?_⟩
     clear HK K
     try simp only [Act.put,lzA,lzB,lzC,lzD,lzE,lzF]
     refine bO 10 (by kernel_rfl) rfl ?_
     intro K HK
     refine wanted_go rfl ?_
     try simp only [lzA,lzB,lzC]
     refine wp_app_any (n:=ps.length) ei_pt (.tmp 73) (.tmp 81) rfl rfl (owns_grow Sx7.o.own HY.o.1) (some ⟨x7.heap.size,0,none⟩) 1 1 [.int .i64 h,.int .i64 (nextE t).1,.int .i64 (nextE (nextE t).2).1] rfl (by simp) rfl (fun ad had j u hu=>?news) (one_pt ⟨h,(nextE t).1,(nextE (nextE t).2).1⟩) (by have:=HPK.o;unfold maxLen;omega) (by have:=HPK.o;omega) (by have:=HY.o.1.size;have:=Sx7.o.grow.size;have:=(γ Sx7.o.msg);have:=Sx7.o.lo7;omega) ?_
     case news=>
      obtain rfl:=Option.some.inj had
      have h9:=cells3 HY.o.2
      rw [Addr.add_lit,Nat.zero_add]
      match j,hu with
      |0,hu=>simp at hu;rw [←hu];exact h9.1
      |1,hu=>simp at hu;rw [←hu];exact h9.2.1
      |2,hu=>simp at hu;rw [←hu];exact h9.2.2
      |j+3,hu=>simp at hu
     intro a9 c9 z9 hA
     have HA:=η hA
     clear hA
     refine HK.o _ _ ⟨fun _=>⟨(cells4 (row_by (row_grow Sx7.o.msg HY.o.1) HA.o.grown (fun e9=>(Sx7.o.dis _ e9.symm).2 rfl))).2.2.1,(cells4 (row_by (row_grow Sx7.o.msg HY.o.1) HA.o.grown (fun e9=>(Sx7.o.dis _ e9.symm).2 rfl))).2.2.2⟩,?_⟩
     clear HK K
     try simp only [Act.put,lzD,lzE,lzF]
     refine bO 11 (by kernel_rfl) rfl ?_
     intro K HK
     try simp only [lzA,lzB,lzC]
     go_simp
     refine HK.o _ _ ⟨fun _=>⟨(cells4 (row_by (row_grow Sx7.o.msg HY.o.1) HA.o.grown (fun e9=>(Sx7.o.dis _ e9.symm).2 rfl))).2.2.1,(cells4 (row_by (row_grow Sx7.o.msg HY.o.1) HA.o.grown (fun e9=>(Sx7.o.dis _ e9.symm).2 rfl))).2.2.2⟩,?_⟩
     clear HK K
     try simp only [Act.put,lzA,lzB,lzC,lzD,lzE,lzF]
     refine bO 12 (by kernel_rfl) rfl ?_
     intro K HK
     try simp only [lzA,lzB,lzC]
     obtain⟨m0,m1,m2,m3⟩:=cells4 (row_by (row_grow Sx7.o.msg HY.o.1) HA.o.grown (fun e9=>(Sx7.o.dis _ e9.symm).2 rfl))
     have f9:=row_free (row_by (row_grow Sx7.o.msg HY.o.1) HA.o.grown (fun e9=>(Sx7.o.dis _ e9.symm).2 rfl))
     go_simp
     clear m0 m1 m2 m3 f9
     refine HK.o _ _ ⟨fun h=>absurd rfl h,?_⟩
     clear HK K
     try simp only [Act.put,lzA,lzB,lzC,lzD,lzE,lzF]
     refine but_done (by kernel_rfl) ?_
     go_wp2
     go_roundw
     case rel=>
      refine⟨k+1,.slice a9 (ps.length+1) c9,by omega,by go_num,?_⟩
      rw [HPN.o.1,HPN.o.2]
      refine RSt.part (ps':=ps++ [⟨h,(nextE t).1,(nextE (nextE t).2).1⟩]) Sx7.o HY.o.1 ?_ HA.o.grown HA.o.blk
      have h9:=HA.o.own
      simpa [Pt.cells] using h9
     case measure=>simp [intOf];omega
    ·obtain rfl:k=N:=by omega
     have HOP:=η (pairs_ok HIH.o s3 k)
     obtain⟨wx,rfl⟩:∃x:World,x=wr:=⟨_,rfl⟩
     clear hr
     generalize pairs h (nextN (2*k) s3).1=ps at*
     generalize (nextN (2*k) s3).2=sN at*
     obtain⟨lN,eN⟩:=sN
     obtain⟨rb,rd,hrow,-⟩:=HR.o.rdr
     simp only at hrow
     have RX0:=η hrow
     have R2X0:=η HR.o.res
     have GX0:=η HR.o.grow
     obtain⟨q0,q1⟩:=cells2 hrow
     have z6x:B6<wx.heap.size:=(γ hrow)
     have f6:=row_free hrow
     clear hrow
     by_cases hN:eN=0
     ·subst hN
      by_cases hlN:lN=[]
      ·have HRP:Hid (readB b=if wrongM ⟨z,d,h,ps⟩=0 then(⟨z,d,h,ps⟩,0) else(ms0,wrongM ⟨z,d,h,ps⟩)):=η (by
        rw [HRB2.o]
        unfold readP
        rw [if_pos (by simp [hlN])])
       have hll:¬(0:Int)<(lN.length:Int):=by rw [hlN];simp
       obtain⟨m0,m1,m2,m3⟩:=cells4 HR.o.msg
       have z7x:B7<wx.heap.size:=(γ HR.o.msg)
       have HW:=η (fun(W:World) (hW:Grow wx W)=>wire_wrong (m:=⟨z,d,h,ps⟩) W ⟨_,rfl,.slice ap ps.length cp,rfl,HIZ.o,HID.o,HIH.o,(Pts.of_own HR.o.own HOP.o).mono hW.sub⟩)
       clear hlN
       go_wp2_with fail
       refine(HW.o _ (Grow.refl _)).mono ?_
       rintro eq wy ⟨rfl,hby⟩
       have RY:=η (row_grow RX0.o hby)
       have R2Y:=η (row_grow R2X0.o hby)
       have RMY:=η (row_grow HR.o.msg hby)
       have OWY:=η (owns_grow HR.o.own hby)
       have GY:=η (GX0.o.trans hby)
       clear hby q0 q1 f6 m0 m1 m2 m3 z6x z7x
       obtain⟨wx2,hwx2⟩:∃x:World,x=wy.setCell ⟨B6,1,none⟩ (.int .i64 (wrongM ⟨z,d,h,ps⟩)):=⟨_,rfl⟩
       have GS:Hid (wy.grownBy wx2 (some B6)):=η (by rw [hwx2];exact grownBy_setCell wy ⟨B6,1,none⟩ _)
       have RX:Hid (wx2.heap[B6]? =some (.cells #[.slice rb lN.length rd,.int .i64 (wrongM ⟨z,d,h,ps⟩)] 178 (0,0))):=η (by rw [hwx2];exact row_set2_1 RY.o _)
       have R2X:=η (row_by R2Y.o GS.o (by have:=H9.o.lo6;intro e9;have:=Option.some.inj e9;omega))
       have RMX:=η (row_by RMY.o GS.o (by have:=H9.o.ne;intro e9;have:=Option.some.inj e9;omega))
       have OWX:=η (OWY.o.kept GS.o (by
        cases e9:(Value.slice ap ps.length cp).ownBlock with
        |none=>exact .inl rfl
        |some q=>exact .inr (by have:=(HR.o.dis q e9).1;intro e8;have:=Option.some.inj e8;omega)))
       have GX:=η (GY.o.grown GS.o (fun q hq=>by have:=H9.o.lo6;simp at hq;omega))
       obtain⟨q0,q1⟩:=cells2 RY.o
       have z6y:B6<wy.heap.size:=(γ RY.o)
       have f6:=row_free RY.o
       by_cases hwr:wrongM ⟨z,d,h,ps⟩=0
       ·have HE:Hid (readB b=(⟨z,d,h,ps⟩,0)):=η (by rw [HRP.o,if_pos hwr])
        have hbw:(wrongM ⟨z,d,h,ps⟩ !=0)=false:=by simp [hwr]
        clear hwr
        generalize wrongM ⟨z,d,h,ps⟩=er at*
        go_upto_region 20 with fail
        rw [←hwx2]
        clear hwx2 q0 q1 f6
        obtain⟨q0,q1⟩:=cells2 RX.o
        obtain⟨m0,m1,m2,m3⟩:=cells4 RMX.o
        have z7x:B7<wx2.heap.size:=(γ RMX.o)
        have z6z:B6<wx2.heap.size:=(γ RX.o)
        go_wp2_with (first|(refine wpList_store_row rfl (.tmp 2) (.tmp 121) rfl rfl rfl R2X.o info_ms rfl rfl ?_))
        intro w7 r7 g7
        obtain⟨p0,p1,p2,p3⟩:=cells4 r7
        clear q0 q1 m0 m1 m2 m3
        go_wp2
        refine bodyPost_ret (v:=.tuple #[.agg #[.int .i64 z,.int .i64 d,.int .i64 h,.slice ap ps.length cp],.int .i64 0]) (by simp [results,Tryz.results70,go_sem,p0,p1,p2,p3]) rfl ?_
        rw [HE.o]
        refine⟨_,rfl,⟨_,rfl,_,rfl,HIZ.o,HID.o,HIH.o,?_⟩,GX.o.grown g7 (fun q hq=>by simp at hq;omega)⟩
        have h9:=OwnC.pts (c:=fun _=>none) (OWX.o.kept g7 (by
         cases e9:(Value.slice ap ps.length cp).ownBlock with
         |none=>exact .inl rfl
         |some q=>exact .inr (by have:=(OWX.o.lt q e9).1;intro e8;have:=Option.some.inj e8;omega))) HOP.o
        exact h9.slc (by decide) (fun _ _ e9=>by cases e9) (fun a9 ha=>ov_new (by omega))
       ·have HE:Hid (readB b=(ms0,wrongM ⟨z,d,h,ps⟩)):=η (by rw [HRP.o,if_neg hwr])
        have hbw:(wrongM ⟨z,d,h,ps⟩ !=0)=true:=by simp [hwr]
        clear hwr
        generalize wrongM ⟨z,d,h,ps⟩=er at*
        go_upto_region 20 with fail
        rw [←hwx2]
        clear hwx2 q0 q1 f6
        obtain⟨wx,rfl⟩:∃x:World,x=wx2:=⟨_,rfl⟩
        obtain⟨q0,q1⟩:=cells2 RX.o
        have z6z:B6<wx.heap.size:=(γ RX.o)
        go_wp2_with fail
        clear q0 q1
        refine but_start (fun w'=>w'.cell? ⟨B6,1,none⟩=some (.int .i64 (er))) 6 (by kernel_rfl) ?_
        obtain⟨wd,hWd⟩:∃x:World,x=wx.drew:=⟨_,rfl⟩
        rw [←hWd]
        have GD:Grow wx wd:=by rw [hWd];exact(Grow.refl _).drew
        have zD:wx.heap.size=wd.heap.size:=by rw [hWd];rfl
        have ZD:=η zD
        clear hWd zD
        refine bLm [0,1,2,3,4] 9 (by kernel_rfl) (fun _ _ _ _ _ h=>h) ((cells2 (row_grow RX.o GD)).2) ?_
        repeat (refine tNm (v:=?_) rfl (by rfl) ?_ ?_;rotate_left;(· (intro w' hSw;(try dsimp only at hSw);go_simp<;>with_reducible rfl));try simp only [Act.put,lzA,lzB,lzC,lzD,lzE,lzF])
        refine tEm ?_
        refine bO 5 (by kernel_rfl) rfl ?_
        intro K HK
        refine wanted_go rfl ?_
        try simp only [lzA,lzB,lzC]
        refine wp_store_row (.tmp 2) (.tmp 116) rfl rfl rfl (row_grow R2X.o GD) info_ms rfl rfl ?_
        intro w7 r7 g7
        refine HK.o _ _ ⟨fun _=>(cells2 (row_by (row_grow RX.o GD) g7 (by have:=H9.o.lo6;intro e9;have:=Option.some.inj e9;omega))).2,?_⟩
        clear HK K
        try simp only [Act.put]
        refine bO 6 (by kernel_rfl) rfl ?_
        intro K HK
        try simp only [lzA,lzB,lzC]
        go_simp
        refine HK.o _ _ ⟨fun h=>absurd rfl h,?_⟩
        clear HK K
        try simp only [Act.put,lzA,lzB,lzC,lzD,lzE,lzF]
        refine but_done (by kernel_rfl) ?_
        obtain⟨p0,p1,p2,p3⟩:=cells4 r7
        go_wp2
        refine bodyPost_ret (v:=.tuple #[.agg #[.int .i64 0,.int .i64 0,.int .i64 0,.slice none 0 0],.int .i64 (er)]) (by simp [results,Tryz.results70,go_sem,p0,p1,p2,p3]) rfl ?_
        rw [HE.o]
        exact⟨_,rfl,of_ms0 _,(GX.o.trans GD).grown g7 (fun q hq=>by simp at hq;omega)⟩
      ·have HE:Hid (readB b=(ms0,2)):=η (by
        rw [HRB2.o]
        unfold readP
        rw [if_neg (by simp [hlN])]
        simp [hlN])
       have hll:(0:Int)<(lN.length:Int):=by have:=List.length_pos_iff.2 hlN;omega
       obtain⟨wx2,hwx2⟩:∃x:World,x=wx.setCell ⟨B6,1,none⟩ (.int .i64 2):=⟨_,rfl⟩
       have GS:Hid (wx.grownBy wx2 (some B6)):=η (by rw [hwx2];exact grownBy_setCell wx ⟨B6,1,none⟩ _)
       have RX:Hid (wx2.heap[B6]? =some (.cells #[.slice rb lN.length rd,.int .i64 2] 178 (0,0))):=η (by rw [hwx2];exact row_set2_1 RX0.o _)
       have R2X:=η (row_by R2X0.o GS.o (by have:=H9.o.lo6;intro e9;have:=Option.some.inj e9;omega))
       have GX:=η (GX0.o.grown GS.o (fun q hq=>by have:=H9.o.lo6;simp at hq;omega))
       clear hlN
       go_upto_region 18 with fail
       rw [←hwx2]
       clear hwx2 q0 q1 f6 z6x
       obtain⟨wx,rfl⟩:∃x:World,x=wx2:=⟨_,rfl⟩
       obtain⟨q0,q1⟩:=cells2 RX.o
       have z6z:B6<wx.heap.size:=(γ RX.o)
       go_wp2_with fail
       clear q0 q1
       refine but_start (fun w'=>w'.cell? ⟨B6,1,none⟩=some (.int .i64 (2))) 6 (by kernel_rfl) ?_
       obtain⟨wd,hWd⟩:∃x:World,x=wx.drew:=⟨_,rfl⟩
       rw [←hWd]
       have GD:Grow wx wd:=by rw [hWd];exact(Grow.refl _).drew
       have zD:wx.heap.size=wd.heap.size:=by rw [hWd];rfl
       have ZD:=η zD
       clear hWd zD
       refine bLm [0,1,2,3,4] 9 (by kernel_rfl) (fun _ _ _ _ _ h=>h) ((cells2 (row_grow RX.o GD)).2) ?_
       repeat (refine tNm (v:=?_) rfl (by rfl) ?_ ?_;rotate_left;(· (intro w' hSw;(try dsimp only at hSw);go_simp<;>with_reducible rfl));try simp only [Act.put,lzA,lzB,lzC,lzD,lzE,lzF])
       refine tEm ?_
       refine bO 5 (by kernel_rfl) rfl ?_
       intro K HK
       refine wanted_go rfl ?_
       try simp only [lzA,lzB,lzC]
       refine wp_store_row (.tmp 2) (.tmp 116) rfl rfl rfl (row_grow R2X.o GD) info_ms rfl rfl ?_
       intro w7 r7 g7
       refine HK.o _ _ ⟨fun _=>(cells2 (row_by (row_grow RX.o GD) g7 (by have:=H9.o.lo6;intro e9;have:=Option.some.inj e9;omega))).2,?_⟩
       clear HK K
       try simp only [Act.put]
       refine bO 6 (by kernel_rfl) rfl ?_
       intro K HK
       try simp only [lzA,lzB,lzC]
       go_simp
       refine HK.o _ _ ⟨fun h=>absurd rfl h,?_⟩
       clear HK K
       try simp only [Act.put,lzA,lzB,lzC,lzD,lzE,lzF]
       refine but_done (by kernel_rfl) ?_
       obtain⟨p0,p1,p2,p3⟩:=cells4 r7
       go_wp2
       refine bodyPost_ret (v:=.tuple #[.agg #[.int .i64 0,.int .i64 0,.int .i64 0,.slice none 0 0],.int .i64 (2)]) (by simp [results,Tryz.results70,go_sem,p0,p1,p2,p3]) rfl ?_
       rw [HE.o]
       exact⟨_,rfl,of_ms0 _,(GX.o.trans GD).grown g7 (fun q hq=>by simp at hq;omega)⟩
     ·have HE:Hid (readB b=(ms0,eN)):=η (by
       rw [HRB2.o]
       unfold readP
       simp only
       rw [if_neg (by simp [hN])]
       simp [hN])
      have hb1:(eN==0)=false:=by simp [hN]
      have hb2:(eN !=0)=true:=by simp [hN]
      have RX:=η RX0.o
      have R2X:=η R2X0.o
      have GX:=η GX0.o
      clear hN
      go_wp2_with fail
      clear q0 q1
      refine but_start (fun w'=>w'.cell? ⟨B6,1,none⟩=some (.int .i64 (eN))) 6 (by kernel_rfl) ?_
      obtain⟨wd,hWd⟩:∃x:World,x=wx.drew:=⟨_,rfl⟩
      rw [←hWd]
      have GD:Grow wx wd:=by rw [hWd];exact(Grow.refl _).drew
      have zD:wx.heap.size=wd.heap.size:=by rw [hWd];rfl
      have ZD:=η zD
      clear hWd zD
      refine bLm [0,1,2,3,4] 9 (by kernel_rfl) (fun _ _ _ _ _ h=>h) ((cells2 (row_grow RX.o GD)).2) ?_
      repeat (refine tNm (v:=?_) rfl (by rfl) ?_ ?_;rotate_left;(· (intro w' hSw;(try dsimp only at hSw);go_simp<;>with_reducible rfl));try simp only [Act.put,lzA,lzB,lzC,lzD,lzE,lzF])
      refine tEm ?_
      refine bO 5 (by kernel_rfl) rfl ?_
      intro K HK
      refine wanted_go rfl ?_
      try simp only [lzA,lzB,lzC]
      refine wp_store_row (.tmp 2) (.tmp 116) rfl rfl rfl (row_grow R2X.o GD) info_ms rfl rfl ?_
      intro w7 r7 g7
      refine HK.o _ _ ⟨fun _=>(cells2 (row_by (row_grow RX.o GD) g7 (by have:=H9.o.lo6;intro e9;have:=Option.some.inj e9;omega))).2,?_⟩
      clear HK K
      try simp only [Act.put]
      refine bO 6 (by kernel_rfl) rfl ?_
      intro K HK
      try simp only [lzA,lzB,lzC]
      go_simp
      refine HK.o _ _ ⟨fun h=>absurd rfl h,?_⟩
      clear HK K
      try simp only [Act.put,lzA,lzB,lzC,lzD,lzE,lzF]
      refine but_done (by kernel_rfl) ?_
      obtain⟨p0,p1,p2,p3⟩:=cells4 r7
      go_wp2
      refine bodyPost_ret (v:=.tuple #[.agg #[.int .i64 0,.int .i64 0,.int .i64 0,.slice none 0 0],.int .i64 (eN)]) (by simp [results,Tryz.results70,go_sem,p0,p1,p2,p3]) rfl ?_
      rw [HE.o]
      exact⟨_,rfl,of_ms0 _,(GX.o.trans GD).grown g7 (fun q hq=>by simp at hq;omega)⟩
  ·obtain rfl:n=0:=hnz he3
   obtain⟨l3,e3⟩:=s3
   simp only at he3 q1
   have HE:Hid (readB b=(ms0,e3)):=η (by
    rw [HRB.o,if_neg (by simp [he3])]
    simp only [Int.toNat_zero,Nat.mul_zero,nextN]
    unfold readP
    simp only
    rw [if_neg (by simp [he3])]
    simp [he3])
   have hb1:(e3==0)=false:=by simp [he3]
   have hb2:(e3 !=0)=true:=by simp [he3]
   have R9:=η H9.o.rdr
   clear he3 hnz hnb HRB
   go_wp2
   go_loopw [70] (fun i wr=>i=.int .i64 0∧wr=w9) (fun _ _=>0)
   case atStart=>exact⟨rfl,rfl⟩
   case round=>
    obtain⟨rfl,hwr⟩:=hrel
    obtain⟨wx,rfl⟩:∃x:World,x=wr:=⟨_,rfl⟩
    have R9x:=η (show Rdr wx B6 w.cell? (l3,e3) by rw [hwr];exact R9.o)
    have R2X:Hid (wx.heap[w.heap.size]? =some (.cells #[.int .i64 0,.int .i64 0,.int .i64 0,.slice none 0 0] 95 (0,0))):=η (by rw [hwr];exact R2.o)
    have GX:=η (show Grow w wx by rw [hwr];exact G9.o)
    clear hwr q0 q1 z6
    obtain⟨rb,rd,hrow,-⟩:=R9x.o
    simp only at hrow
    have RX:=η hrow
    obtain⟨q0,q1⟩:=cells2 hrow
    have z6x:B6<wx.heap.size:=(γ hrow)
    clear hrow
    go_wp2_with fail
    clear q0 q1
    refine but_start (fun w'=>w'.cell? ⟨B6,1,none⟩=some (.int .i64 (e3))) 6 (by kernel_rfl) ?_
    obtain⟨wd,hWd⟩:∃x:World,x=wx.drew:=⟨_,rfl⟩
    rw [←hWd]
    have GD:Grow wx wd:=by rw [hWd];exact(Grow.refl _).drew
    have zD:wx.heap.size=wd.heap.size:=by rw [hWd];rfl
    have ZD:=η zD
    clear hWd zD
    refine bLm [0,1,2,3,4] 9 (by kernel_rfl) (fun _ _ _ _ _ h=>h) ((cells2 (row_grow RX.o GD)).2) ?_
    repeat (refine tNm (v:=?_) rfl (by rfl) ?_ ?_;rotate_left;(· (intro w' hSw;(try dsimp only at hSw);go_simp<;>with_reducible rfl));try simp only [Act.put,lzA,lzB,lzC,lzD,lzE,lzF])
    refine tEm ?_
    refine bO 5 (by kernel_rfl) rfl ?_
    intro K HK
    refine wanted_go rfl ?_
    try simp only [lzA,lzB,lzC]
    refine wp_store_row (.tmp 2) (.tmp 116) rfl rfl rfl (row_grow R2X.o GD) info_ms rfl rfl ?_
    intro w7 r7 g7
    refine HK.o _ _ ⟨fun _=>(cells2 (row_by (row_grow RX.o GD) g7 (by have:=H9.o.lo6;intro e9;have:=Option.some.inj e9;omega))).2,?_⟩
    clear HK K
    try simp only [Act.put]
    refine bO 6 (by kernel_rfl) rfl ?_
    intro K HK
    try simp only [lzA,lzB,lzC]
    go_simp
    refine HK.o _ _ ⟨fun h=>absurd rfl h,?_⟩
    clear HK K
    try simp only [Act.put,lzA,lzB,lzC,lzD,lzE,lzF]
    refine but_done (by kernel_rfl) ?_
    obtain⟨p0,p1,p2,p3⟩:=cells4 r7
    go_wp2
    refine bodyPost_ret (v:=.tuple #[.agg #[.int .i64 0,.int .i64 0,.int .i64 0,.slice none 0 0],.int .i64 (e3)]) (by simp [results,Tryz.results70,go_sem,p0,p1,p2,p3]) rfl ?_
    rw [HE.o]
    exact⟨_,rfl,of_ms0 _,(GX.o.trans GD).grown g7 (fun q hq=>by simp at hq;omega)⟩
 ·have HE:Hid (readB b=(ms0,7)):=η (by
   unfold readB
   rw [if_neg HL3.o,if_neg (by rw [HOK.o];simpa using ht)])
  by_cases hxx:(x:Int)=(s:Int)/256
  ·have hyy:¬(y:Int)=(s:Int) % 256:=fun h=>ht (hsx.1 ⟨hxx,h⟩)
   have hbx:((x:Int) !=(s:Int)/256)=false:=by simp [hxx]
   have hby:((y:Int) !=(s:Int) % 256)=true:=by simp [hyy]
   clear hsx HOK ht hxx hyy
   go_enter Tryz.func70,Tryz.ntmps70
   go_wp2_with fail
   refine(HSM.o _ ((Grow.refl _).alloc _)).mono ?_
   rintro e0 w1 ⟨rfl,hb1⟩
   have R2:=η (row_grow (row_new w (.cells #[.int .i64 0,.int .i64 0,.int .i64 0,.slice none 0 0] 95)) hb1)
   have G1:=η (((Grow.refl w).alloc (.cells #[.int .i64 0,.int .i64 0,.int .i64 0,.slice none 0 0] 95)).trans hb1)
   replace c0:=G1.o.sub _ _ c0
   replace cx:=G1.o.sub _ _ cx
   replace cy:=G1.o.sub _ _ cy
   have z2:w.heap.size<w1.heap.size:=(γ R2.o)
   clear hb1
   go_wp2_with (first|(refine wpList_store_row rfl (.tmp 2) (.tmp 38) rfl rfl rfl R2.o info_ms rfl rfl ?_))
   intro w7 r7 g7
   obtain⟨p0,p1,p2,p3⟩:=cells4 r7
   go_wp2
   refine bodyPost_ret (v:=.tuple #[.agg #[.int .i64 0,.int .i64 0,.int .i64 0,.slice none 0 0],.int .i64 7]) (by simp [results,Tryz.results70,go_sem,p0,p1,p2,p3]) rfl ?_
   rw [HE.o]
   exact⟨_,rfl,of_ms0 _,G1.o.grown g7 (fun q hq=>by simp at hq;omega)⟩
  ·have hbx:((x:Int) !=(s:Int)/256)=true:=by simp [hxx]
   clear hsx HOK ht hxx
   go_enter Tryz.func70,Tryz.ntmps70
   go_wp2_with fail
   refine(HSM.o _ ((Grow.refl _).alloc _)).mono ?_
   rintro e0 w1 ⟨rfl,hb1⟩
   have R2:=η (row_grow (row_new w (.cells #[.int .i64 0,.int .i64 0,.int .i64 0,.slice none 0 0] 95)) hb1)
   have G1:=η (((Grow.refl w).alloc (.cells #[.int .i64 0,.int .i64 0,.int .i64 0,.slice none 0 0] 95)).trans hb1)
   replace c0:=G1.o.sub _ _ c0
   replace cx:=G1.o.sub _ _ cx
   replace cy:=G1.o.sub _ _ cy
   have z2:w.heap.size<w1.heap.size:=(γ R2.o)
   clear hb1
   go_wp2_with (first|(refine wpList_store_row rfl (.tmp 2) (.tmp 38) rfl rfl rfl R2.o info_ms rfl rfl ?_))
   intro w7 r7 g7
   obtain⟨p0,p1,p2,p3⟩:=cells4 r7
   go_wp2
   refine bodyPost_ret (v:=.tuple #[.agg #[.int .i64 0,.int .i64 0,.int .i64 0,.slice none 0 0],.int .i64 7]) (by simp [results,Tryz.results70,go_sem,p0,p1,p2,p3]) rfl ?_
   rw [HE.o]
   exact⟨_,rfl,of_ms0 _,G1.o.grown g7 (fun q hq=>by simp at hq;omega)⟩
theorem eql_sm (s t:Sm) (w:World):(binOp .eql 48 (.agg #[.int .i64 s.a,.int .i64 s.b,.int .i64 s.c,.int .i64 s.d]) (.agg #[.int .i64 t.a,.int .i64 t.b,.int .i64 t.c,.int .i64 t.d])).run Tryz.prog w=.ok (.bool (decide (s=t))) w:=by
 have u3:=Tryz.underlying3
 have a3:=Tryz.isAgg3
 have z3:=Tryz.sizeOf3
 obtain⟨i,z,hi,_⟩:=ei_int.hi
 have hc:Tryz.prog.cellsOf 3=1:=by kernel_rfl
 rw [run_eql_struct,show(10000:Nat)=9999+1 from rfl,run_equalIn_array w 9999 _ _ Tryz.underlying48 hi,hc,show List.range 4=[0,1,2,3] from rfl]
 clear hi
 simp only [Op.eqItems]
 obtain⟨a,b,c,d⟩:=s
 obtain⟨a',b',c',d'⟩:=t
 go_simp
 by_cases h1:a=a'<;>by_cases h2:b=b'<;>by_cases h3:c=c'<;>by_cases h4:d=d'<;>simp [h1,h2,h3,h4]
theorem guard_sm:Tryz.prog.eqGuardType Tryz.prog.depth 48=false:=by kernel_rfl
theorem run_store_el {α:Type} {T:Ty α} {P:Program} {ty:TypeId} {c:CM} {w:World} {base e g cap i:Nat} {l:List α} {cells:Array Value} {x:α}
  (hown:OwnC T c w base e (.slice (some ⟨g,0,none⟩) l.length cap) l) (hi:i<l.length) (hsz:(P.info? ty).map (·.size)=some cells.size) (hR:T.R c cells.toList x) (h1:cells.toList.all (·.oneCell')=true):
  ∃w',(storeVar ty ⟨g,i*T.size,none⟩ (.agg cells)).run P w=.ok () w'∧OwnC T c w' base e (.slice (some ⟨g,0,none⟩) l.length cap) (l.set i x)∧w.grownBy w' (some g):=by
 obtain⟨css,⟨hl,⟨h',_⟩|⟨g',cap',cur,h',hb,hg,hnc,hcm,hcs,htake⟩⟩,h2,h3⟩:=hown
 ·simp at h'
 simp only [Value.slice.injEq,Option.some.injEq,Addr.mk.injEq,and_true,true_and] at h'
 obtain⟨rfl,rfl⟩:=h'
 have hcl:=css_len h2 h3
 have hlen:cells.toList.length=T.size:=T.len hR
 have hle:i*T.size+T.size≤l.length*T.size:=by
  have:=Nat.mul_le_mul_right T.size (show i+1≤l.length by omega)
  rw [Nat.add_mul] at this;omega
 have hle2:l.length*T.size≤cap*T.size:=Nat.mul_le_mul_right _ hnc
 have hr:=run_storeCells_at (P:=P) g (i*T.size) e cells.toList 0 cur w hg (by rw [hlen];omega) (fun v hv=>by simpa using List.all_eq_true.1 h1 v hv)
 have e9:(l.set i x).length=l.length:=List.length_set
 have e1:css.flatten.length=l.length*T.size:=by rw [flatten_len css hcl,h2]
 have e2:cur.toList.take (i*T.size)=css.flatten.take (i*T.size):=by rw [←htake,List.take_take,Nat.min_eq_left (by omega)]
 have e3:(cur.toList.drop (i*T.size+T.size)).take (l.length*T.size - (i*T.size+T.size))=css.flatten.drop (i*T.size+T.size):=by
  rw [←htake,List.drop_take]
 have e4:(css.flatten.take (i*T.size)).length=i*T.size:=by rw [List.length_take,e1,Nat.min_eq_left (by omega)]
 have hown':(w.setRow g (cur.toList.take (i*T.size+0)++cells.toList++cur.toList.drop (i*T.size+0+cells.toList.length)).toArray).ownsRow base e T.size (.slice (some ⟨g,0,none⟩) l.length cap) l.length (css.set i cells.toList).flatten:=by
  refine⟨?_,.inr ⟨g,cap,_,rfl,hb,setRow_heap w g cur _ e _ hg,hnc,hcm,?_,?_⟩⟩
  ·rw [flatten_len _ (fun cs hc=>by rcases List.mem_or_eq_of_mem_set hc with h|h;exact hcl cs h;rw [h];exact hlen)]
   simp [h2]
  ·rw [List.size_toArray,List.length_append,List.length_append,List.length_take,List.length_drop,hlen,Array.length_toList,hcs];omega
  ·rw [hlen,Nat.add_zero,e2]
   simp only
   rw [List.take_append,List.take_of_length_le (by rw [List.length_append,e4,hlen];exact hle),List.length_append,e4,hlen,e3,flatten_take css i hcl,show i*T.size+T.size=(i+1)*T.size by rw [Nat.add_mul];omega,flatten_drop css (i+1) hcl,
    List.set_eq_take_append_cons_drop,if_pos (by omega)]
   simp
 refine⟨w.setRow g (cur.toList.take (i*T.size+0)++cells.toList++cur.toList.drop (i*T.size+0+cells.toList.length)).toArray,?_,⟨css.set i cells.toList,by rw [e9];exact hown',by simp [h2],fun j cs y ej ey=>?_⟩,⟨rfl,rfl,rfl,by simp [World.setRow],fun k hk hne=>?_⟩⟩
 ·cases hq:P.info? ty with
  |none=>simp [hq] at hsz
  |some q=>
   have hs:cells.size=q.size:=by simp [hq] at hsz;omega
   simp [storeVar,sizeOf,typeInfo,hq,Value.cells,hs] at hr ⊢
   exact hr
 ·by_cases hj:j=i
  ·subst hj
   rw [List.getElem?_set_self (by omega)] at ej ey
   obtain rfl:=Option.some.inj ej
   obtain rfl:=Option.some.inj ey
   exact hR
  ·rw [List.getElem?_set_ne (fun e=>hj e.symm)] at ej ey
   exact h3 j cs y ej ey
 ·simp only [World.setRow]
  rw [Array.getElem?_modify]
  rw [if_neg (fun e=>hne (by rw [e]))]
theorem wp_store_el {α:Type} {T:Ty α} {P:Program} {ty:TypeId} {c:CM} {w:World} {o:Oper} {a:Act} {K:Act→World→Prop} {Q:Exit→Act→World→Prop} (d s:Operand) (ho:o.op=.store ty d s)
  {base e g cap i p:Nat} {l:List α} {cells:Array Value} {x:α} (hd:a.eval d=.pointer (some ⟨g,p,none⟩)) (hs:a.eval s=.agg cells) (hp:p=i*T.size)
  (hown:OwnC T c w base e (.slice (some ⟨g,0,none⟩) l.length cap) l) (hi:i<l.length) (hsz:(P.info? ty).map (·.size)=some cells.size) (hR:T.R c cells.toList x) (h1:cells.toList.all (·.oneCell')=true)
  (h:∀w',OwnC T c w' base e (.slice (some ⟨g,0,none⟩) l.length cap) (l.set i x)→w.grownBy w' (some g)→K (a.put o.dst undef) w'):o.wp P a w K Q:=by
 subst hp
 obtain⟨w',hr,h2,h3⟩:=run_store_el (P:=P) (ty:=ty) hown hi hsz hR h1
 unfold Oper.wp execOp
 simp only [ho,hd,hs,Instr.storeAt,Instr.sureAddr,Sem.run_bind,Sem.run_pure,Result.andThen_ok,hr]
 exact h _ h2 h3
theorem wpList_store_el {α:Type} {T:Ty α} {P:Program} {ty:TypeId} {c:CM} {w:World} {ops:Array Oper} {rest:List Oper} {o:Oper} {a:Act} {Q:Exit→Act→World→Prop} (hgd:o.guard=none) (d s:Operand) (ho:o.op=.store ty d s)
  {base e g cap i p:Nat} {l:List α} {cells:Array Value} {x:α} (hd:a.eval d=.pointer (some ⟨g,p,none⟩)) (hs:a.eval s=.agg cells) (hp:p=i*T.size)
  (hown:OwnC T c w base e (.slice (some ⟨g,0,none⟩) l.length cap) l) (hi:i<l.length) (hsz:(P.info? ty).map (·.size)=some cells.size) (hR:T.R c cells.toList x) (h1:cells.toList.all (·.oneCell')=true)
  (h:∀w',OwnC T c w' base e (.slice (some ⟨g,0,none⟩) l.length cap) (l.set i x)→w.grownBy w' (some g)→wpList P ops Q rest (a.put o.dst undef) w'):wpList P ops Q (o::rest) a w:=
 wpList_plain hgd fun _ hK=>wp_store_el d s ho hd hs hp hown hi hsz hR h1 fun w' a b=>hK _ _ (h w' a b)
theorem info_sm:(Tryz.prog.info? 48).map (·.size)=some 4:=by kernel_rfl
theorem neq_sm (s t:Sm) (w:World):(binOp .neq 48 (.agg #[.int .i64 s.a,.int .i64 s.b,.int .i64 s.c,.int .i64 s.d]) (.agg #[.int .i64 t.a,.int .i64 t.b,.int .i64 t.c,.int .i64 t.d])).run Tryz.prog w=.ok (.bool (!decide (s=t))) w:=by
 have h:=eql_sm s t w
 rw [run_eql_struct] at h
 rw [run_neq_struct]
 cases hr:(Op.equalIn 10000 48 (.agg #[.int .i64 s.a,.int .i64 s.b,.int .i64 s.c,.int .i64 s.d]) (.agg #[.int .i64 t.a,.int .i64 t.b,.int .i64 t.c,.int .i64 t.d])).run Tryz.prog w with
 |ok b w'=>rw [hr] at h;simp only [Result.andThen_ok,Result.ok.injEq,Value.bool.injEq] at h ⊢;exact⟨by rw [h.1],h.2⟩
 |halt x w'=>rw [hr] at h;simp [Result.andThen] at h
theorem getD_at {S:List Sm} {n:Nat} (h:n<S.length):S.getD n ⟨0,0,0,0⟩=S[n]:=by
 rw [List.getD_eq_getElem?_getD,List.getElem?_eq_getElem h];rfl
set_option maxRecDepth 100000 in
set_option maxHeartbeats 4000000 in
theorem model_do {v vp:Value} {S:List Sm} {P:List Pt} (w:World) (hv:Sms w.cell? v S) (hp:Pts w.cell? vp P) (hw:wrongE P S.length=0) (h1:1≤S.length) (h3:S.length≤3):
  Calls Tryz.prog 28 #[v,vp] w fun e w'=>∃v',e=.returned (.tuple #[v',.int .i64 (doAllE S P).2])∧Sms w'.cell? v' (doAllE S P).1∧Grow w w'∧OwnC Ty.sm (fun _=>none) w' w.heap.size 48 v' (doAllE S P).1:=by
 have h0:=wrong_ok hw
 have HALL:Hid (doGo P S S (housesE P)=doAllE S P):=η (doGo_all h1 h3 fun p hp=>by have:=h0.2.2.1 p hp;omega)
 have HIN:Hid (∀n∈housesE P,0≤n∧n<S.length):=fun n hn=>houses_lt hw hn
 have hne:P≠ []:=by intro e;rw [e] at h0;simp at h0
 have HCL:=η (fun(W:World) (hW:Grow w W)=>clone_sm W (hv.mono hW.sub) (by omega))
 have HPH:=η (fun(W:World) (hW:Grow w W)=>part_houses W (hp.mono hW.sub) (by omega) hne (fun p hp=>by have:=h0.2.2.1 p hp;omega))
 have HPO:=η (fun(n:Int) (W:World) (hW:Grow w W)=>part_of (n:=n) W (hp.mono hW.sub) (by omega))
 have HKA:=η (fun(n:Int)=>ofL_ok hw n)
 have HSO:Hid (∀x∈S,SmOk x):=fun x hx=>by
  obtain⟨a,cap,rfl,-,-,-,hel⟩:=hv
  obtain⟨i,hi⟩:=List.mem_iff_getElem?.1 hx
  obtain⟨b,o,cs,-,hR,-⟩:=hel i x hi
  exact hR.2
 obtain⟨ap,cp,rfl,-⟩:=hp
 obtain⟨a,cap,rfl,h1',h2,-,hel⟩:=hv
 unfold maxLen at h2
 clear hw hne h0
 go_enter Tryz.func28,Tryz.ntmps28
 go_wp2_with fail
 refine(HCL.o _ (Grow.refl _)).mono ?_
 rintro e w1 ⟨v1,rfl,ho1,hb1⟩
 have HO1:Hid (OwnC Ty.sm (fun _=>none) w1 w.heap.size 48 v1 S):=η (OwnC.of_flat (T:=Ty.sm) (f:=Sm.cells) ho1 fun x hx=>⟨rfl,HSO.o x hx⟩)
 obtain⟨a1,c1,rfl⟩:=HO1.o.form
 have HB1:=η hb1
 have hmx:S.length≤c1∧c1≤9223372036854775807:=by
  obtain⟨a0,c0,he,h0,h01,-⟩:=HO1.o.sl (by decide) (fun a v e=>by cases e)
  simp only [Value.slice.injEq] at he
  unfold maxLen at h01
  omega
 obtain⟨g,cs0,rfl,-,-⟩:=HO1.o.get (by decide) 0 (by omega)
 have HGB:=η ((HO1.o.lt g rfl).1)
 clear hb1 ho1
 go_wp2_with fail
 refine(HPH.o _ HB1.o).mono ?_
 rintro e w2 ⟨v2,rfl,ho2,hb2⟩
 obtain⟨a2,c2,rfl⟩:=owns_form ho2
 have HB2:=η (HB1.o.trans hb2)
 have HI2:=(OwnC.ints (c:=fun _=>none) ho2 (fun x hx=>by have:=HIN.o x hx;unfold I64;simp [Lit.wf,IntKind.min,IntKind.max,IntKind.signed,IntKind.bits];omega)).slc (d:=ov (fun _=>none) w1 w2) (by decide) (fun a v e=>by cases e) (fun a h=>ov_new h)
 have HS2:=η (ov_sub (c:=fun _=>none) (W:=w1) (w:=w2) (fun a v e=>by cases e) hb2)
 have HNG:Hid (g<w1.heap.size):=η (HO1.o.lt g rfl).2
 obtain⟨a2',c2',he2,p1,p2,-,hel2⟩:=HI2
 obtain⟨rfl,rfl⟩:a2=a2'∧c2=c2':=by simpa using he2
 unfold maxLen at p2
 have HO2:=η (HO1.o.grow hb2)
 clear ho2 hb2 he2
 generalize housesE P=ns at*
 go_wp2
 go_loopw [4,5,8,9,10,16] (fun _ _ _ _ _ i wr=>∃(k:Nat) (out:List Sm),k≤ns.length∧i=.int .i64 k∧Grow w wr∧Sub (ov (fun _=>none) w1 w2) wr.cell?∧out.length=S.length∧OwnC Ty.sm (fun _=>none) wr w.heap.size 48 (.slice (some ⟨g,0,none⟩) S.length c1) out∧doGo P S S ns=doGo P S out (ns.drop k)) (fun _ _ _ _ _ i _=>ns.length - (intOf i).toNat)
 case atStart=>exact⟨0,S,by omega,rfl,HB2.o,HS2.o,rfl,HO2.o,rfl⟩
 case round=>
  obtain⟨k,out,hk',rfl,hb,hsub,hlo,hown,hE⟩:=hrel
  by_cases hlt:k<ns.length
  ·obtain⟨b2,o2,rfl,e0,-⟩:=intAt hel2 k hlt
   replace e0:=hsub _ _ e0
   have hn:=HIN.o ns[k] (List.getElem_mem hlt)
   rw [List.drop_eq_getElem_cons hlt,doGo] at hE
   generalize ns[k]=n at*
   obtain⟨m,rfl⟩:∃m:Nat,n=m:=⟨n.toNat,by omega⟩
   have hmS:m<S.length:=by omega
   obtain⟨b,o,rfl,q0,q1,q2,q3,i0,i1,i2,i3⟩:=smAt hel m hmS
   replace q0:=hb.sub _ _ q0
   replace q1:=hb.sub _ _ q1
   replace q2:=hb.sub _ _ q2
   replace q3:=hb.sub _ _ q3
   simp only [Int.toNat_natCast] at hE
   rw [getD_at hmS] at hE
   have HSK:Hid (SmOk (doP S[m] (ofL P m))):=η (SmOk.doP ⟨i0,i1,i2,i3⟩ _)
   have hown2:=hown
   rw [←hlo] at hown2
   have HOW:=η hown2
   have HLO:=η hlo
   have HB:=η hb
   have HSB:=η hsub
   have HKO:=η (HKA.o (m:Int))
   have HMS:=η hmS
   clear hel hel2 hown hown2 i0 i1 i2 i3 hb hlo hn hsub
   generalize S[m]=s at*
   rw [show s.get=S4 s.a s.b s.c s.d from rfl] at hE
   by_cases hf:fitsE (S4 s.a s.b s.c s.d) (ofL P m)=0
   ·have HEN:=η (show doGo P S S ns=doGo P S (out.set m (doP s (ofL P m))) (ns.drop (k+1)) by rw [hE,if_pos hf])
    have hbf:(fitsE (S4 s.a s.b s.c s.d) (ofL P m) !=0)=false:=by simp [hf]
    clear hE hf
    go_wp2_with fail
    refine(HPO.o _ _ HB.o).mono ?_
    rintro e w3 ⟨v3,rfl,ho3,hb3⟩
    obtain⟨a3,c3,rfl⟩:=ho3.form
    have HP3:=η (ho3.sl (by decide) (fun a v e=>by cases e))
    have HB3:=η hb3
    replace q0:=hb3.sub _ _ q0
    replace q1:=hb3.sub _ _ q1
    replace q2:=hb3.sub _ _ q2
    replace q3:=hb3.sub _ _ q3
    clear ho3 hb3 e0
    go_wp2_with fail
    refine(part_fits (s0:=s.a) (s1:=s.b) (s2:=s.c) (s3:=s.d) _ HP3.o HKO.o).mono ?_
    rintro e w4 ⟨rfl,hb4⟩
    have HB4:=η (HB3.o.trans hb4)
    have HP4:=η (HP3.o.mono hb4.sub)
    replace q0:=hb4.sub _ _ q0
    replace q1:=hb4.sub _ _ q1
    replace q2:=hb4.sub _ _ q2
    replace q3:=hb4.sub _ _ q3
    clear hb4
    go_wp2_with fail
    refine(part_do (s:=s) _ HP4.o HKO.o).mono ?_
    rintro e w5 ⟨rfl,hb5⟩
    have HB5:=η (HB4.o.trans hb5)
    clear hb5 q0 q1 q2 q3
    have HOB:=η (HOW.o.grow HB5.o)
    go_wp2_with (first|(refine wpList_store_el (T:=Ty.sm) (i:=m) (x:=doP s (ofL P m)) (cells:=#[.int .i64 (doP s (ofL P m)).a,.int .i64 (doP s (ofL P m)).b,.int .i64 (doP s (ofL P m)).c,.int .i64 (doP s (ofL P m)).d]) rfl (.tmp 42) (.tmp 41) rfl rfl rfl ?hp HOB.o ?hi info_sm ⟨rfl,HSK.o.1,HSK.o.2.1,HSK.o.2.2.1,HSK.o.2.2.2⟩ rfl ?_))
    case hp=>show _=m*4;omega
    case hi=>rw [HLO.o];exact HMS.o
    intro wz hoz hgz
    have HOZ:Hid (OwnC Ty.sm (fun _=>none) wz w.heap.size 48 (.slice (some ⟨g,0,none⟩) S.length c1) (out.set m (doP s (ofL P m)))):=η (by rw [←HLO.o];exact hoz)
    have HGZ:=η (Grow.grown (HB.o.trans HB5.o) hgz (fun q hq=>by obtain rfl:=Option.some.inj hq;exact HGB.o))
    have HSZ:Hid (Sub (ov (fun _=>none) w1 w2) wz.cell?):=η (fun a v e=>by
     have e2:=(HSB.o.trans HB5.o.sub) a v e
     have hag:a.block≠g:=by
      intro hag
      unfold ov at e
      rw [if_pos (by have:=HNG.o;omega)] at e
      cases e
     rw [by_cell hgz (World.block_lt_of_cell? w5 a e2) hag];exact e2)
    clear hoz hgz
    go_wp2
    go_roundw
    case rel=>exact⟨k+1,_,by omega,by go_num,HGZ.o,HSZ.o,by rw [List.length_set];exact HLO.o,HOZ.o,HEN.o⟩
    case measure=>simp [intOf];omega
   ·have HER:=η (show doAllE S P=(S,fitsE (S4 s.a s.b s.c s.d) (ofL P m)) by
     rw [←HALL.o,hE,if_neg hf])
    have hbf:(fitsE (S4 s.a s.b s.c s.d) (ofL P m) !=0)=true:=by simp [hf]
    clear hE hf
    go_wp2_with fail
    refine(HPO.o _ _ HB.o).mono ?_
    rintro e w3 ⟨v3,rfl,ho3,hb3⟩
    obtain⟨a3,c3,rfl⟩:=ho3.form
    have HP3:=η (ho3.sl (by decide) (fun a v e=>by cases e))
    have HB3:=η hb3
    replace q0:=hb3.sub _ _ q0
    replace q1:=hb3.sub _ _ q1
    replace q2:=hb3.sub _ _ q2
    replace q3:=hb3.sub _ _ q3
    clear ho3 hb3 e0
    go_wp2_with fail
    refine(part_fits (s0:=s.a) (s1:=s.b) (s2:=s.c) (s3:=s.d) _ HP3.o HKO.o).mono ?_
    rintro e w4 ⟨rfl,hb4⟩
    have HB4:=η (HB.o.trans (HB3.o.trans hb4))
    clear hb4 q0 q1 q2 q3
    go_wp2_with fail
    refine(HCL.o _ HB4.o).mono ?_
    rintro e w5 ⟨v5,rfl,ho5,hb5⟩
    have HO5:Hid (OwnC Ty.sm (fun _=>none) w5 w4.heap.size 48 v5 S):=η (OwnC.of_flat (T:=Ty.sm) (f:=Sm.cells) ho5 fun x hx=>⟨rfl,HSO.o x hx⟩)
    have HB5:=η (HB4.o.trans hb5)
    clear ho5 hb5
    obtain⟨a5,c5,rfl⟩:=HO5.o.form
    go_wp2
    refine bodyPost_ret (v:=.tuple #[.slice a5 S.length c5,.int .i64 (fitsE (S4 s.a s.b s.c s.d) (ofL P m))]) (by simp [results,Tryz.results28,go_sem]) rfl ?_
    exact⟨_,by rw [HER.o],by rw [HER.o];exact HO5.o.sl (by decide) (fun a v e=>by cases e),HB5.o,by rw [HER.o];exact HO5.o.base HB4.o.size⟩
  ·have HR9:=η (show doAllE S P=(out,0) by
    rw [←HALL.o,hE,List.drop_of_length_le (by omega)];rfl)
   have H10:=η hown
   have H9:Hid (Sms wr.cell? (.slice (some ⟨g,0,none⟩) S.length c1) out):=η (by
    have h8:=hown
    rw [←hlo] at h8
    have h9:=h8.sl (by decide) (fun a v e=>by cases e)
    rw [hlo] at h9
    exact h9)
   clear hel hel2 hE hown
   go_wp2
   refine bodyPost_ret (v:=.tuple #[.slice (some ⟨g,0,none⟩) S.length c1,.int .i64 0]) (by simp [results,Tryz.results28,go_sem]) rfl ?_
   exact⟨_,by rw [HR9.o],by rw [HR9.o];exact H9.o,hb,by rw [HR9.o];exact H10.o⟩
theorem all_snoc:∀(S:List Sm) (D:List Rd) (r:Rd),allE S (D++ [r])=((doAllE (allE S D).1 r.parts).1,(allE S D).2++ [(doAllE (allE S D).1 r.parts).2])
 |S,[],r=>rfl
 |S,q::D,r=>by rw [List.cons_append,allE,all_snoc,allE];rfl
theorem all_len:∀(S:List Sm) (D:List Rd),(allE S D).2.length=D.length
 |_,[]=>rfl
 |S,r::D=>by rw [allE,List.length_cons,List.length_cons,all_len]
theorem doAll_len' (S:List Sm) (P:List Pt):(doAllE S P).1.length=S.length:=by
 unfold doAllE
 split
 ·exact putGo_len _ _
 ·rfl
theorem all_len1:∀(S:List Sm) (D:List Rd),(allE S D).1.length=S.length
 |_,[]=>rfl
 |S,r::D=>by rw [allE,all_len1,doAll_len']
theorem fits_i64 (f:Int→Int):∀l:List Pt,I64 (fitsE f l)
 | []=>zero_ok
 |p::l=>by
  unfold fitsE
  split
  ·show I64 11;unfold I64;decide
  ·split
   ·show I64 4;unfold I64;decide
   ·exact fits_i64 f l
theorem err_i64 (P:List Pt):∀(S:List Sm) (k:Nat),I64 (errGo P k S)
 | [],_=>zero_ok
 |s::S,k=>by
  unfold errGo
  split
  ·exact err_i64 P S _
  ·exact fits_i64 _ _
theorem doAll_i64 (S:List Sm) (P:List Pt):I64 (doAllE S P).2:=by
 unfold doAllE
 split
 ·exact zero_ok
 ·exact err_i64 P S 0
theorem make_sums {n:Nat} (h:1≤n∧n≤3):∃cs:Array Value,(∀w:World,(Instr.makeSlice 44 (.int .i64 n) (.int .i64 n)).run Tryz.prog w=.ok (.slice (some ⟨w.heap.size,0,none⟩) n n) (w.alloc (.cells cs 48)))∧
  ∀(w:World),OwnC Ty.sm (fun _=>none) (w.alloc (.cells cs 48)) w.heap.size 48 (.slice (some ⟨w.heap.size,0,none⟩) n n) (List.replicate n ⟨0,0,0,0⟩):=by
 have key:∀(m:Nat) (cs:Array Value),m≤3→cs.toList=(List.replicate m (⟨0,0,0,0⟩:Sm)).flatMap Sm.cells→∀(w:World),OwnC Ty.sm (fun _=>none) (w.alloc (.cells cs 48)) w.heap.size 48 (.slice (some ⟨w.heap.size,0,none⟩) m m) (List.replicate m ⟨0,0,0,0⟩):=by
  intro m cs hm hc w
  have h1:=World.ownsRow_lit (base:=w.heap.size) (e:=48) (size:=4) w cs m (Nat.le_refl _) (by unfold maxLen;omega) (by rw [←Array.length_toList,hc,flat_len (f:=Sm.cells) (size:=4) (fun _=>rfl)];simp)
  rw [hc] at h1
  have h2:=OwnC.of_flat (T:=Ty.sm) (f:=Sm.cells) (c:=fun _=>none) (l:=List.replicate m ⟨0,0,0,0⟩) (by rw [List.length_replicate];exact h1) (fun x hx=>by
   rw [List.eq_of_mem_replicate hx]
   exact⟨rfl,zero_ok,zero_ok,zero_ok,zero_ok⟩)
  exact h2
 obtain⟨h1,h2⟩:=h
 match n,h1,h2 with
 |1,_,_=>exact⟨#[.int .i64 0,.int .i64 0,.int .i64 0,.int .i64 0],fun w=>by kernel_rfl,key 1 _ (by decide) rfl⟩
 |2,_,_=>exact⟨#[.int .i64 0,.int .i64 0,.int .i64 0,.int .i64 0,.int .i64 0,.int .i64 0,.int .i64 0,.int .i64 0],fun w=>by kernel_rfl,key 2 _ (by decide) rfl⟩
 |3,_,_=>exact⟨#[.int .i64 0,.int .i64 0,.int .i64 0,.int .i64 0,.int .i64 0,.int .i64 0,.int .i64 0,.int .i64 0,.int .i64 0,.int .i64 0,.int .i64 0,.int .i64 0],fun w=>by kernel_rfl,key 3 _ (by decide) rfl⟩
set_option maxRecDepth 100000 in
set_option maxHeartbeats 2000000 in
theorem model_all {v:Value} {n:Nat} {D:List Rd} (w:World) (hn:1≤n∧n≤3) (hv:Sl Ty.rd w.cell? v D) (hD:∀r∈D,wrongE r.parts n=0) (hm:D.length*8≤140737488355328):
  Calls Tryz.prog 17 #[.int .i64 n,v] w fun e w'=>∃v1 v2,e=.returned (.tuple #[v1,v2])∧Sms w'.cell? v1 (allE (List.replicate n ⟨0,0,0,0⟩) D).1∧Sl Ty.int w'.cell? v2 (allE (List.replicate n ⟨0,0,0,0⟩) D).2∧Grow w w':=by
 obtain⟨cs,hmk,hms⟩:=make_sums hn
 have HMS:=η (hms w)
 obtain⟨a,cap,rfl,h1,h2,-,hel⟩:=hv
 unfold maxLen at h2
 have HN:=η hn
 have HM:=η hm
 clear hms hm
 go_enter Tryz.func17,Tryz.ntmps17
 go_wp2
 clear hmk
 go_loopw [6,7,10,11,16] (fun sS sE _ _ i wr=>∃k:Nat,k≤D.length∧i=.int .i64 k∧Grow w wr∧OwnC Ty.sm (fun _=>none) wr w.heap.size 48 sS (allE (List.replicate n ⟨0,0,0,0⟩) (D.take k)).1∧(∀g,sS.ownBlock=some g→sE.ownBlock≠some g)∧OwnC Ty.int (fun _=>none) wr w.heap.size 55 sE (allE (List.replicate n ⟨0,0,0,0⟩) (D.take k)).2) (fun _ _ _ _ i _=>D.length - (intOf i).toNat)
 case atStart=>exact⟨0,by omega,rfl,(Grow.refl w).alloc _,HMS.o,fun g _ e=>by simp [Value.ownBlock] at e,OwnC.nil _ _ _ _ _⟩
 case round=>
  obtain⟨k,hk',rfl,hb,hOS,hne,hE⟩:=hrel
  have hS:=hOS.sl (by decide) (fun a v e=>by cases e)
  obtain⟨aS,cS,rfl⟩:=hOS.form
  obtain⟨aE,cE,rfl⟩:=hE.form
  by_cases hlt:k<D.length
  ·obtain⟨b,o,vp,rfl,c0,c1,i0,hP⟩:=Rds.at_ hel k hlt
   obtain⟨ap,cp,rfl,-⟩:=id hP
   have hw:=hD D[k] (List.getElem_mem hlt)
   have HSN:=η (all_snoc (List.replicate n ⟨0,0,0,0⟩) (D.take k) D[k])
   rw [←List.take_succ_eq_append_getElem hlt] at HSN
   have hel2:(allE (List.replicate n ⟨0,0,0,0⟩) (D.take k)).2.length=k:=by rw [all_len];simp;omega
   have HEL:=η hel2
   clear hel2
   have hsl:(allE (List.replicate n ⟨0,0,0,0⟩) (D.take k)).1.length=n:=by rw [all_len1];simp
   replace c0:=hb.sub _ _ c0
   replace c1:=hb.sub _ _ c1
   have h0:=wrong_ok hw
   have HCA:=η (fun(W:World) (hW:Grow wr W)=>model_do W (hS.mono hW.sub) (hP.mono (hb.trans hW).sub) (by rw [hsl];exact hw) (by rw [hsl];exact HN.o.1) (by rw [hsl];exact HN.o.2))
   have HI:=η (doAll_i64 (allE (List.replicate n ⟨0,0,0,0⟩) (D.take k)).1 D[k].parts)
   have HE:=η hE
   have HOS:=η hOS
   have HNE:=η hne
   have HB:=η hb
   clear hel hS hE hP hw h0 hD hb i0 hsl hOS hne
   generalize (allE (List.replicate n ⟨0,0,0,0⟩) (D.take k)).1=S at*
   generalize (allE (List.replicate n ⟨0,0,0,0⟩) (D.take k)).2=E at*
   generalize D[k]=r at*
   generalize (doAllE S r.parts).1=S' at*
   generalize (doAllE S r.parts).2=er at*
   go_wp2_with fail
   refine(HCA.o _ ((Grow.refl wr).alloc _)).mono ?_
   rintro e w3 ⟨v3,rfl,hS3,hb3,hO3⟩
   obtain⟨a3,c3,rfl,-⟩:=id hS3
   have HS3:Hid (OwnC Ty.sm (fun _=>none) w3 w.heap.size 48 (.slice a3 S'.length c3) S'∧∀g,(Value.slice a3 S'.length c3).ownBlock=some g→(Value.slice aE E.length cE).ownBlock≠some g):=η ⟨hO3.base (by have:=HB.o.size;simp;omega),fun g hg e=>by have:=(hO3.lt g hg).1;have:=(HE.o.lt g e).2;simp at*;omega⟩
   have HB3:=η (((Grow.refl wr).alloc _).trans hb3)
   clear hS3 hb3 hO3
   go_wp2_with (first|(at_builtin;refine wpList_appc (c:=fun _=>none) (base:=w.heap.size) (l:=E) (m:=[er]) ei_errno rfl one_Tint (by decide) rfl (.tmp 28) (.tmp 30) rfl rfl ?own rfl (Src.of_new (T:=Ty.int) (cs:=#[.int .i64 er]) ⟨rfl,HI.o⟩ _ _ ?d1) ?d2 ?d3 ?_))
   case own=>exact(HE.o.grow HB3.o).grow ((Grow.refl _).alloc _)
   case d1=>simp
   case d2=>have:=HM.o;have:=HEL.o;simp;omega
   case d3=>have:=(HB.o.trans HB3.o).size;simp;omega
   intro a9 c9 w9 ho9 hg9 hb9
   have HO9:=η ho9
   have HG9:=η (grow_by (w0:=w) ((HB.o.trans HB3.o).alloc _) hg9 (fun q hq=>(HE.o.lt q hq).1))
   have HS9:Hid (OwnC Ty.sm (fun _=>none) w9 w.heap.size 48 (.slice a3 S'.length c3) S'):=η ((HS3.o.1.grow ((Grow.refl _).alloc _)).kept hg9 (by
    cases hq:(Value.slice a3 S'.length c3).ownBlock with
    |none=>exact .inl rfl
    |some q=>exact .inr (fun e=>HS3.o.2 q hq e.symm)))
   have HN9:Hid (∀g,(Value.slice a3 S'.length c3).ownBlock=some g→(Value.slice a9 (E.length+ [er].length) c9).ownBlock≠some g):=η (fun q hq e=>by
    change (Value.slice a9 (E.length+1) c9).ownBlock=some q at e
    rcases hb9 with h|⟨g2,h,hg2⟩
    ·rw [h] at e;exact HS3.o.2 q hq e
    ·rw [h] at e
     obtain rfl:=Option.some.inj e
     have:=(HS3.o.1.lt _ hq).2
     (try simp at hg2);omega)
   clear ho9 hg9 hb9
   go_wp2
   go_roundw
   case rel=>exact⟨k+1,by omega,by go_num,HG9.o,by rw [HSN.o];exact HS9.o,HN9.o,by rw [HSN.o];exact HO9.o⟩
   case measure=>simp [intOf];omega
  ·rw [List.take_of_length_le (by omega)] at hS hE ⊢
   clear hOS hne
   have HS:=η hS
   have HE:=η (hE.sl (by decide) (fun a v e=>by cases e))
   clear hel hS hE
   go_wp2
   refine bodyPost_ret (v:=.tuple #[.slice aS (allE (List.replicate n ⟨0,0,0,0⟩) D).1.length cS,.slice aE (allE (List.replicate n ⟨0,0,0,0⟩) D).2.length cE]) (by simp [results,Tryz.results17,go_sem]) rfl ?_
   exact⟨_,_,rfl,HS.o,HE.o,hb⟩
def ApartP (a b:List Pt):Prop:=∀p∈a,∀q∈b,¬(p.h=q.h∧p.k=q.k)
theorem ApartP.symm {a b:List Pt} (h:ApartP a b):ApartP b a:=fun p hp q hq e=>h q hq p hp ⟨e.1.symm,e.2.symm⟩
def totalE:List Sm→Int
 | []=>0
 |s::l=>smSum s+totalE l
theorem idx_sm (a b c d:Int) (w:World):(Instr.index 48 (.agg #[.int .i64 a,.int .i64 b,.int .i64 c,.int .i64 d]) (.int .i64 0)).run Tryz.prog w=.ok (.int .i64 a) w∧(Instr.index 48 (.agg #[.int .i64 a,.int .i64 b,.int .i64 c,.int .i64 d]) (.int .i64 1)).run Tryz.prog w=.ok (.int .i64 b) w∧
  (Instr.index 48 (.agg #[.int .i64 a,.int .i64 b,.int .i64 c,.int .i64 d]) (.int .i64 2)).run Tryz.prog w=.ok (.int .i64 c) w∧(Instr.index 48 (.agg #[.int .i64 a,.int .i64 b,.int .i64 c,.int .i64 d]) (.int .i64 3)).run Tryz.prog w=.ok (.int .i64 d) w:=
 ⟨by kernel_rfl,by kernel_rfl,by kernel_rfl,by kernel_rfl⟩
theorem total_snoc:∀(l:List Sm) (s:Sm),totalE (l++ [s])=totalE l+smSum s
 | [],s=>by simp [totalE]
 |x::l,s=>by simp only [List.cons_append,totalE,total_snoc l s];omega
theorem total_bound:∀{l:List Sm},(∀s∈l,rightS s=true)→0≤totalE l∧totalE l≤4194304*l.length
 | [],_=>by simp [totalE]
 |x::l,h=>by
  have h1:=total_bound fun s hs=>h s (List.mem_cons_of_mem _ hs)
  have h2:=(rightS_iff x).1 (h x List.mem_cons_self)
  have a0:=h2 0 (by omega)
  have a1:=h2 1 (by omega)
  have a2:=h2 2 (by omega)
  have a3:=h2 3 (by omega)
  simp only [Sm.get,S4] at a0 a1 a2 a3
  simp at a0 a1 a2 a3
  simp only [totalE,smSum,List.length_cons]
  omega
set_option maxRecDepth 100000 in
set_option maxHeartbeats 2000000 in
theorem model_total {v:Value} {S:List Sm} (w:World) (hv:Sms w.cell? v S) (hr:∀s∈S,rightS s=true) (hl:S.length≤3):
  Calls Tryz.prog 11 #[v] w fun e w'=>e=.returned (.int .i64 (totalE S))∧Grow w w':=by
 have HR:=η hr
 obtain⟨a,cap,rfl,h1,h2,-,hel⟩:=hv
 unfold maxLen at h2
 clear hr
 go_enter Tryz.func11,Tryz.ntmps11
 go_wp2
 go_loopw [3,10] (fun t i wr=>∃k:Nat,k≤S.length∧i=.int .i64 k∧t=.int .i64 (totalE (S.take k))∧Grow w wr) (fun _ i _=>S.length - (intOf i).toNat)
 case atStart=>exact⟨0,by omega,rfl,rfl,Grow.refl _⟩
 case round=>
  obtain⟨k,hk',rfl,rfl,hb⟩:=hrel
  by_cases hlt:k<S.length
  ·obtain⟨b,o,rfl,c0,c1,c2,c3,-,-,-,-⟩:=smAt hel k hlt
   replace c0:=hb.sub _ _ c0
   replace c1:=hb.sub _ _ c1
   replace c2:=hb.sub _ _ c2
   replace c3:=hb.sub _ _ c3
   have HTS:=η (show totalE (S.take (k+1))=totalE (S.take k)+smSum S[k] by rw [List.take_succ_eq_append_getElem hlt,total_snoc])
   have hbd:=total_bound (l:=S.take k) fun s hs=>HR.o s (List.mem_of_mem_take hs)
   rw [List.length_take,Nat.min_eq_left (by omega)] at hbd
   have hs:=(rightS_iff S[k]).1 (HR.o _ (List.getElem_mem hlt))
   have a0:=hs 0 (by omega)
   have a1:=hs 1 (by omega)
   have a2:=hs 2 (by omega)
   have a3:=hs 3 (by omega)
   simp only [Sm.get,S4] at a0 a1 a2 a3
   simp at a0 a1 a2 a3
   clear hel hs
   generalize totalE (S.take k)=acc at*
   generalize S[k]=s at*
   obtain⟨sa,sb,sc,sd⟩:=s
   simp only at c0 c1 c2 c3 a0 a1 a2 a3
   have hix:=idx_sm sa sb sc sd
   have h0:=fun w=>(hix w).1
   have h1x:=fun w=>(hix w).2.1
   have h2x:=fun w=>(hix w).2.2.1
   have h3x:=fun w=>(hix w).2.2.2
   clear hix
   have HB:Hid (Grow w wr):=η hb
   obtain⟨wo,rfl⟩:∃x:World,x=wr:=⟨_,rfl⟩
   go_wp2
   clear c0 c1 c2 c3
   go_loopw [3,15] (fun t i wx=>∃j:Nat,j≤4∧i=.int .i64 j∧t=.int .i64 (acc+(if j=0 then 0 else if j=1 then sa else if j=2 then sa+sb else if j=3 then sa+sb+sc else sa+sb+sc+sd))∧Grow w wx) (fun _ i _=>4 - (intOf i).toNat)
   case atStart=>exact⟨0,by omega,rfl,by simp,HB.o.alloc _⟩
   case round=>
    obtain⟨j,hj',rfl,rfl,hbx⟩:=hrel
    by_cases hj4:j<4
    ·have hj:j=0∨j=1∨j=2∨j=3:=by omega
     rcases hj with rfl|rfl|rfl|rfl
     ·simp only [if_true]
      go_wp2
      go_roundw
      case rel=>exact⟨1,by omega,by go_num,by simp,hbx⟩
      case measure=>simp [intOf]
     ·simp only [if_true,if_neg (show¬(1:Nat)=0 by omega)]
      go_wp2
      go_roundw
      case rel=>exact⟨2,by omega,by go_num,by simp;omega,hbx⟩
      case measure=>simp [intOf]
     ·simp only [if_true,if_neg (show¬(2:Nat)=0 by omega),if_neg (show¬(2:Nat)=1 by omega)]
      go_wp2
      go_roundw
      case rel=>exact⟨3,by omega,by go_num,by simp;omega,hbx⟩
      case measure=>simp [intOf]
     ·simp only [if_true,if_neg (show¬(3:Nat)=0 by omega),if_neg (show¬(3:Nat)=1 by omega),if_neg (show¬(3:Nat)=2 by omega)]
      go_wp2
      go_roundw
      case rel=>exact⟨4,by omega,by go_num,by simp;omega,hbx⟩
      case measure=>simp [intOf]
    ·obtain rfl:j=4:=by omega
     go_wp2
     go_roundw
     case rel=>exact⟨k+1,by omega,by go_num,by rw [HTS.o];simp [smSum]<;>omega,hbx⟩
     case measure=>simp [intOf];omega
  ·rw [List.take_of_length_le (by omega)]
   clear hel
   go_wp2
   go_ret
   exact⟨rfl,hb⟩
def All2 {α β:Type} (R:α→β→Prop):List α→List β→Prop
 | [],[]=>True
 |a::l,b::m=>R a b∧All2 R l m
 |_,_=>False
theorem All2.len {α β:Type} {R:α→β→Prop}:∀{l:List α} {m:List β},All2 R l m→l.length=m.length
 | [],[],_=>rfl
 |_::_,_::_,h=>by rw [List.length_cons,List.length_cons,All2.len h.2]
 | [],_::_,h=>h.elim
 |_::_,[],h=>h.elim
theorem All2.get {α β:Type} {R:α→β→Prop}:∀{l:List α} {m:List β},All2 R l m→∀(i:Nat) (a:α) (b:β),l[i]? =some a→m[i]? =some b→R a b
 | [],[],_,i,a,b,h1,_=>by simp at h1
 |_::_,_::_,h,0,a,b,h1,h2=>by
  simp only [List.getElem?_cons_zero,Option.some.injEq] at h1 h2
  subst h1 h2
  exact h.1
 |_::_,_::_,h,i+1,a,b,h1,h2=>All2.get h.2 i a b (by simpa using h1) (by simpa using h2)
 | [],_::_,h,_,_,_,_,_=>h.elim
 |_::_,[],h,_,_,_,_,_=>h.elim
theorem OwnC.lit {α:Type} {T:Ty α} {c:CM} {base e:Nat} (w:World) {cs:Array Value} (css:List (List Value)) {l:List α} {g n:Nat} (hg:g=w.heap.size) (hn:n=l.length) (hb:base≤w.heap.size) (hm:l.length≤maxLen) (hcs:cs.toList=css.flatten) (hR:All2 (T.R c) css l):OwnC T c (w.alloc (.cells cs e)) base e (.slice (some ⟨g,0,none⟩) n n) l:=by
 subst hg hn
 have hl:=hR.len
 have h3:=hR.get
 refine⟨css,?_,hl,h3⟩
 have h:=World.ownsRow_lit (base:=base) (e:=e) (size:=T.size) w cs l.length hb hm (by rw [←Array.length_toList,hcs,flatten_len css (css_len hl h3),hl])
 rw [hcs] at h
 exact h
theorem Sl.lit {α:Type} {T:Ty α} {e:Nat} (w:World) {W:World} {cs:Array Value} (css:List (List Value)) {l:List α} {g n:Nat} (h0:0<T.size) (hW:Grow (w.alloc (.cells cs e)) W) (hg:g=w.heap.size) (hn:n=l.length) (hm:l.length≤maxLen) (hcs:cs.toList=css.flatten) (hR:All2 (T.R w.cell?) css l):Sl T W.cell? (.slice (some ⟨g,0,none⟩) n n) l:=
 ((OwnC.lit (base:=w.heap.size) (e:=e) w css hg hn (Nat.le_refl _) hm hcs hR).sl h0 ((Grow.refl _).alloc _).sub).mono hW.sub
theorem right_kind {m:Ms} (h:wrongM m=0):0≤m.kind∧m.kind<256:=by
 have:=(right_m.1 h).kind
 omega
theorem right_len {m:Ms} (h:wrongM m=0):m.parts.length≤4:=(right_m.1 h).len
def sendB (l:List (List UInt8)) (ms:List Ms):List (List UInt8):=l++(ms.take (24 - l.length)).map bytesM
theorem sendB_nil (l:List (List UInt8)):sendB l []=l:=by simp [sendB]
theorem sendB_len (l:List (List UInt8)) (ms:List Ms):(sendB l ms).length=l.length+min (24 - l.length) ms.length:=by simp [sendB]
theorem sendB_step {l:List (List UInt8)} {ms:List Ms} {k:Nat} (h:k<ms.length):sendB l (ms.take (k+1))=if(sendB l (ms.take k)).length<24 then sendB l (ms.take k)++ [bytesM ms[k]] else sendB l (ms.take k):=by
 have hl:=sendB_len l (ms.take k)
 rw [List.length_take] at hl
 by_cases hc:(sendB l (ms.take k)).length<24
 ·rw [if_pos hc]
  unfold sendB
  rw [List.take_take,List.take_take,Nat.min_eq_right (by omega),Nat.min_eq_right (by omega),List.take_succ_eq_append_getElem h,List.map_append,List.append_assoc]
  rfl
 ·rw [if_neg hc]
  unfold sendB
  rw [List.take_take,List.take_take,Nat.min_eq_left (by omega),Nat.min_eq_left (by omega)]
set_option maxRecDepth 100000 in
set_option maxHeartbeats 1000000 in
theorem net_send {v vm:Value} {l:List (List UInt8)} {ms:List Ms} (w:World) (hv:Nts w.cell? v l) (hms:Mss w.cell? vm ms) (hr:∀m∈ms,wrongM m=0) (hm:l.length*24≤140737488355328) (hp:∀b∈l,b.length≤140737488355328):
  Calls Tryz.prog 43 #[v,vm] w fun e w'=>∃v',e=.returned v'∧OwnC Ty.bs (fr w w' [v'.ownBlock]) w' w.heap.size 139 v' (sendB l ms)∧Grow w w':=by
 have HR:=η hr
 have HON:=η (net_own w hv hm hp)
 obtain⟨am,cm,rfl,h1,h2,-,hel⟩:=hms
 unfold maxLen at h2
 clear hv hr hm hp
 go_enter Tryz.func43,Tryz.ntmps43
 go_wp2_with fail
 refine HON.o.mono ?_
 rintro e w1 ⟨v1,rfl,hown1,hb1⟩
 have HO1:=η hown1
 have HB1:=η hb1
 obtain⟨a1,k1,rfl⟩:=hown1.form
 clear hown1 hb1
 go_wp2
 go_loopw [5,12] (fun bv i wr=>∃k:Nat,k≤ms.length∧i=.int .i64 k∧Grow w wr∧OwnC Ty.bs (fr w wr [bv.ownBlock]) wr w.heap.size 139 bv (sendB l (ms.take k))) (fun _ i _=>ms.length - (intOf i).toNat)
 case atStart=>exact⟨0,by omega,rfl,HB1.o,by rw [List.take_zero,sendB_nil];exact HO1.o⟩
 case round=>
  obtain⟨k,hk',rfl,hb,hown⟩:=hrel
  obtain⟨av,cv,rfl⟩:=hown.form
  by_cases hlt:k<ms.length
  ·obtain⟨b,o,vp,rfl,c0,c1,c2,c3,i0,i1,i2,hP⟩:=Mss.at_ hel k hlt
   obtain⟨ap,cp,rfl,-⟩:=id hP
   replace c0:=hb.sub _ _ c0
   replace c1:=hb.sub _ _ c1
   replace c2:=hb.sub _ _ c2
   replace c3:=hb.sub _ _ c3
   have hw:=HR.o ms[k] (List.getElem_mem _)
   have HST:=η (sendB_step (l:=l) hlt)
   have HBY:=η (fun(W:World) (hW:Grow wr W)=>wire_bytes (m:=ms[k]) W ⟨_,rfl,_,rfl,i0,i1,i2,hP.mono (hb.trans hW).sub⟩ (right_kind hw) (right_len hw))
   have HOWN:=η hown
   have HB:=η hb
   clear hel hP hw hown i0 i1 i2 hb
   generalize ms[k]=m at*
   generalize sendB l (ms.take k)=lk at*
   by_cases h24:lk.length<24
   ·have HST2:=η (show sendB l (ms.take (k+1))=lk++ [bytesM m] by rw [HST.o,if_pos h24])
    clear HST
    go_wp2_with fail
    refine(HBY.o _ ((Grow.refl _).alloc _)).mono ?_
    rintro e w2 ⟨v2,rfl,ho2,hb2⟩
    obtain⟨a2,cap2,rfl⟩:=owns_form ho2
    have HO2:=η ho2
    have HB2:=η (((Grow.refl wr).alloc (.cells #[.int .i64 m.kind,.int .i64 m.deed,.int .i64 m.house,.slice ap m.parts.length cp] 95)).trans hb2)
    clear ho2 hb2
    generalize bytesM m=r at*
    go_wp2_with (first|(at_builtin;refine wpList_appc (c:=fr w (w2.alloc (.cells #[.slice a2 r.length cap2] 139)) [(Value.slice av lk.length cv).ownBlock]) (base:=w.heap.size) (l:=lk) (m:=[r]) ei_bts rfl (one_Tsl Ty.byte) (by decide) rfl (.tmp 19) (.tmp 22) rfl rfl ?own rfl (Src.of_new (T:=Ty.bs) (x:=r) (cs:=#[.slice a2 r.length cap2]) ?d0 _ _ ?d1) ?d2 ?d3 ?_))
    case own=>exact(HOWN.o.mono (fr_grow (HB2.o.alloc _))).grow (HB2.o.alloc _)
    case d0=>
     refine⟨_,rfl,?_⟩
     have hlt2:=HOWN.o.lt
     refine bts_fr (w1:=wr.alloc (.cells #[.int .i64 m.kind,.int .i64 m.deed,.int .i64 m.house,.slice ap m.parts.length cp] 95)) ?_ (by have:=HB.o.size;simp;omega) ?_
     ·exact owns_grow HO2.o ((Grow.refl _).alloc _)
     ·intro q hq
      simp only [List.mem_singleton]
      intro e
      have:=(hlt2 q e.symm).2
      simp at hq;omega
    case d1=>simp
    case d2=>simp;omega
    case d3=>have:=(HB2.o.alloc (.cells #[.slice a2 r.length cap2] 139)).size;have:=HB.o.size;omega
    intro a5 c5 w5 hown5 hg5 hb5
    have hG5:Grow w w5:=grow_by (w0:=w) (HB.o.trans (HB2.o.alloc _)) hg5 (fun q hq=>(HOWN.o.lt q hq).1)
    have HO5:=η (hown5.mono (fr_app hg5 (hb5.imp_right fun⟨g,e,hge⟩=>⟨g,e,by simpa using hge⟩)))
    have HG5:=η hG5
    clear hown5 hg5 hb5 hG5
    go_wp2
    go_roundw
    case rel=>exact⟨k+1,by omega,by go_num,HG5.o,by rw [HST2.o];exact HO5.o⟩
    case measure=>simp [intOf];omega
   ·have HST2:=η (show sendB l (ms.take (k+1))=lk by rw [HST.o,if_neg h24])
    clear HST
    go_wp2
    go_roundw
    case rel=>exact⟨k+1,by omega,by go_num,HB.o.alloc _,by rw [HST2.o];exact(HOWN.o.mono (fr_grow ((Grow.refl _).alloc _))).grow ((Grow.refl _).alloc _)⟩
    case measure=>simp [intOf];omega
  ·clear hel
   go_wp2
   go_ret
   have h9:=hown
   rw [List.take_of_length_le (by omega)] at h9
   rw [List.take_of_length_le (by omega)]
   exact⟨_,rfl,h9,hb⟩
def twiceB (l:List (List UInt8)) (n:Int):List (List UInt8)×Int:=
 if 0≤n∧n<l.length then(if l.length<24 then l++ [l.getD n.toNat []] else l,0) else(l,6)
set_option maxRecDepth 100000 in
set_option maxHeartbeats 1000000 in
theorem net_twice {v:Value} {l:List (List UInt8)} {n:Int} (w:World) (hv:Nts w.cell? v l) (hm:l.length*24≤140737488355328) (hp:∀b∈l,b.length≤140737488355328):
  Calls Tryz.prog 39 #[v,.int .i64 n] w fun e w'=>∃v',e=.returned (.tuple #[v',.int .i64 (twiceB l n).2])∧OwnC Ty.bs (fr w w' [v'.ownBlock]) w' w.heap.size 139 v' (twiceB l n).1∧Grow w w':=by
 have HON:=η (net_own w hv hm hp)
 have HP:=η hp
 obtain⟨a,cap,rfl,h1,h2,-,hel⟩:=hv
 unfold maxLen at h2
 clear hm hp
 by_cases hin:0≤n∧n<l.length
 ·obtain⟨i,rfl⟩:∃i:Nat,n=i:=⟨n.toNat,by omega⟩
  have hi:i<l.length:=by omega
  obtain⟨b,o,vp,rfl,c0,hP⟩:=Nts.at_ hel i hi
  obtain⟨ap,cp,rfl,-⟩:=id hP
  have hpl:=HP.o l[i] (List.getElem_mem _)
  have hgd:l.getD i []=l[i]:=by rw [List.getD_eq_getElem?_getD,List.getElem?_eq_getElem hi];rfl
  have HE:=η (show twiceB l i=(if l.length<24 then l++ [l[i]] else l,0) by unfold twiceB;rw [if_pos hin,Int.toNat_natCast,hgd])
  have HCL:=η (fun(W:World) (hW:Grow w W)=>clone_byte W (hP.mono hW.sub) (by omega))
  clear hel hP hpl hgd hin
  generalize l[i]=r at*
  by_cases h24:l.length<24
  ·have HE2:=η (show twiceB l i=(l++ [r],0) by rw [HE.o,if_pos h24])
   clear HE HP
   go_enter Tryz.func39,Tryz.ntmps39
   go_wp2_with fail
   refine HON.o.mono ?_
   rintro e w1 ⟨v1,rfl,hown,hb⟩
   obtain⟨av,cv,rfl⟩:=hown.form
   have HOWN:=η hown
   have HB:=η hb
   replace c0:=hb.sub _ _ c0
   clear hown hb
   go_wp2_with fail
   refine(HCL.o _ HB.o).mono ?_
   rintro e w2 ⟨v2,rfl,ho2,hb2⟩
   obtain⟨a2,cap2,rfl⟩:=owns_form ho2
   have HO2:=η ho2
   have HB2:=η hb2
   clear ho2 hb2 c0
   go_wp2_with (first|(at_builtin;refine wpList_appc (c:=fr w (w2.alloc (.cells #[.slice a2 r.length cap2] 139)) [(Value.slice av l.length cv).ownBlock]) (base:=w.heap.size) (l:=l) (m:=[r]) ei_bts rfl (one_Tsl Ty.byte) (by decide) rfl (.tmp 21) (.tmp 27) rfl rfl ?own rfl (Src.of_new (T:=Ty.bs) (x:=r) (cs:=#[.slice a2 r.length cap2]) ?d0 _ _ ?d1) ?d2 ?d3 ?_))
   case own=>exact(HOWN.o.mono (fr_grow (HB2.o.alloc _))).grow (HB2.o.alloc _)
   case d0=>
    refine⟨_,rfl,?_⟩
    have hlt2:=HOWN.o.lt
    refine bts_fr (w1:=w1) ?_ HB.o.size ?_
    ·exact owns_grow HO2.o ((Grow.refl _).alloc _)
    ·intro q hq
     simp only [List.mem_singleton]
     intro e
     have:=(hlt2 q e.symm).2
     omega
   case d1=>simp
   case d2=>simp;omega
   case d3=>have:=(HB2.o.alloc (.cells #[.slice a2 r.length cap2] 139)).size;have:=HB.o.size;omega
   intro a5 c5 w5 hown5 hg5 hb5
   have hG5:Grow w w5:=grow_by (w0:=w) (HB.o.trans (HB2.o.alloc _)) hg5 (fun q hq=>(HOWN.o.lt q hq).1)
   have HO5:=η (hown5.mono (fr_app hg5 (hb5.imp_right fun⟨g,e,hge⟩=>⟨g,e,by simpa using hge⟩)))
   have HG5:=η hG5
   clear hown5 hg5 hb5 hG5
   go_wp2
   refine bodyPost_ret (v:=.tuple #[.slice a5 (l.length+ [r].length) c5,.int .i64 0]) (by simp [results,Tryz.results39,go_sem]) rfl ?_
   rw [HE2.o]
   exact⟨_,rfl,HO5.o,HG5.o⟩
  ·have HE2:=η (show twiceB l i=(l,0) by rw [HE.o,if_neg h24])
   clear HE HP
   go_enter Tryz.func39,Tryz.ntmps39
   go_wp2_with fail
   refine HON.o.mono ?_
   rintro e w1 ⟨v1,rfl,hown,hb⟩
   obtain⟨av,cv,rfl⟩:=hown.form
   have HOWN:=η hown
   have HB:=η hb
   clear hown hb
   go_wp2
   refine bodyPost_ret (v:=.tuple #[.slice av l.length cv,.int .i64 0]) (by simp [results,Tryz.results39,go_sem]) rfl ?_
   rw [HE2.o]
   exact⟨_,rfl,HOWN.o,HB.o⟩
 ·have HE:=η (show twiceB l n=(l,6) by unfold twiceB;rw [if_neg hin])
  have hcase:n<0∨(0≤n∧(l.length:Int)≤n):=by omega
  clear hin hel HP
  rcases hcase with h0|⟨h0,h9⟩
  all_goals
   go_enter Tryz.func39,Tryz.ntmps39
   go_wp2_with fail
   refine HON.o.mono ?_
   rintro e w1 ⟨v1,rfl,hown,hb⟩
   obtain⟨av,cv,rfl⟩:=hown.form
   have HOWN:=η hown
   have HB:=η hb
   clear hown hb
   go_wp2
   refine bodyPost_ret (v:=.tuple #[.slice av l.length cv,.int .i64 6]) (by simp [results,Tryz.results39,go_sem]) rfl ?_
   rw [HE.o]
   exact⟨_,rfl,HOWN.o,HB.o⟩
def takeB (l:List (List UInt8)) (n:Int):List (List UInt8)×Ms×Int:=
 if 0≤n∧n<l.length then(l.eraseIdx n.toNat,readB (l.getD n.toNat [])) else(l,ms0,6)
theorem fr_out {w W1 w' w'':World} {X X':List (Option Nat)} (hW:w.heap.size≤W1.heap.size) (h:∀k,W1.heap.size≤k→k<w'.heap.size→some k∉X→w''.heap[k]? =w'.heap[k]?∧some k∉X'):Sub (fr W1 w' X) (fr w w'' X'):=fun a v e=>by
 unfold fr at e
 split at e
 ·cases e
 ·rename_i hn
  have h1:¬a.block<W1.heap.size:=fun hx=>hn (.inl hx)
  have h2:some a.block∉X:=fun hx=>hn (.inr hx)
  obtain⟨h3,h4⟩:=h a.block (by omega) (World.block_lt_of_cell? w' a e) h2
  rw [fr_new (by omega) h4,World.cell?_of_block h3]
  exact e
theorem OwnC.erase {α:Type} {T:Ty α} {c c':CM} {w':World} {base e g cap i:Nat} {l:List α} {css:List (List Value)} (h2:css.length=l.length) (h3:∀(i:Nat) (cs:List Value) (x:α),css[i]? =some cs→l[i]? =some x→T.R c cs x) (hs:Sub c c') (hi:i<l.length)
  (hnew:w'.ownsRow base e T.size (.slice (some ⟨g,0,none⟩) (l.length - 1) cap) (l.length - 1) (css.flatten.take (i*T.size)++css.flatten.drop ((i+1)*T.size))):OwnC T c' w' base e (.slice (some ⟨g,0,none⟩) (l.length - 1) cap) (l.eraseIdx i):=by
 have hcl:=css_len h2 h3
 refine⟨css.eraseIdx i,?_,?_,?_⟩
 ·have e:(css.eraseIdx i).flatten=css.flatten.take (i*T.size)++css.flatten.drop ((i+1)*T.size):=by
   rw [flatten_take css i hcl,flatten_drop css (i+1) hcl,List.eraseIdx_eq_take_drop_succ,List.flatten_append]
  rw [e,List.length_eraseIdx_of_lt hi]
  exact hnew
 ·rw [List.length_eraseIdx_of_lt hi,List.length_eraseIdx_of_lt (by omega),h2]
 ·intro j cs x a e
  rw [List.getElem?_eraseIdx] at a e
  by_cases hj:j<i
  ·rw [if_pos hj] at a e
   exact T.mono hs (h3 j cs x a e)
  ·rw [if_neg hj] at a e
   exact T.mono hs (h3 (j+1) cs x a e)
set_option maxRecDepth 100000 in
set_option maxHeartbeats 2000000 in
theorem net_take {v:Value} {l:List (List UInt8)} {n:Int} (w:World) (hv:Nts w.cell? v l) (hm:l.length*24≤140737488355328) (hp:∀b∈l,b.length≤140737488355328):
  Calls Tryz.prog 38 #[v,.int .i64 n] w fun e w'=>∃v' vm,e=.returned (.tuple #[v',vm,.int .i64 (takeB l n).2.2])∧OwnC Ty.bs (fr w w' [v'.ownBlock]) w' w.heap.size 139 v' (takeB l n).1∧Of Ty.ms (ov (fun _=>none) w w') vm (takeB l n).2.1∧Grow w w':=by
 have HON:=η (fun(W:World) (hW:Grow w W)=>net_own W (hv.mono hW.sub) hm hp)
 obtain⟨a,cap,rfl,h1,h2,-,hel⟩:=hv
 unfold maxLen at h2
 clear hm hp
 by_cases hin:0≤n∧n<l.length
 ·obtain⟨i,rfl⟩:∃i:Nat,n=i:=⟨n.toNat,by omega⟩
  have hi:i<l.length:=by omega
  obtain⟨b,o,vp,rfl,c0,hP⟩:=Nts.at_ hel i hi
  obtain⟨aq,cq,rfl,-⟩:=id hP
  have hgd:l.getD i []=l[i]:=by rw [List.getD_eq_getElem?_getD,List.getElem?_eq_getElem hi];rfl
  have HE:=η (show takeB l i=(l.eraseIdx i,readB l[i]) by unfold takeB;rw [if_pos hin,Int.toNat_natCast,hgd])
  have HRD:=η (fun(W:World) (hW:Grow w W)=>wire_read W (hP.mono hW.sub))
  have HEL:Hid ((l.eraseIdx i).length=l.length - 1):=η (List.length_eraseIdx_of_lt hi)
  clear hel hP hgd hin
  have zb:=World.block_lt_of_cell? w _ c0
  simp only at zb
  generalize l[i].length=nb at*
  generalize readB l[i]=rd at*
  obtain⟨x,er⟩:=rd
  go_enter Tryz.func38,Tryz.ntmps38
  go_wp2_with fail
  refine(HRD.o _ ((Grow.refl _).alloc _)).mono ?_
  rintro e w1 ⟨v1,rfl,hx,hb1⟩
  obtain⟨ap,cp,rfl⟩:=hx.ms_form
  have R5:=η (row_grow (row_new w (.cells #[.int .i64 0,.int .i64 0,.int .i64 0,.slice none 0 0] 95)) hb1)
  have G1:=η (((Grow.refl w).alloc (.cells #[.int .i64 0,.int .i64 0,.int .i64 0,.slice none 0 0] 95)).trans hb1)
  have HX:=η hx
  clear hx hb1 c0
  go_wp2_with fail
  obtain⟨wq,hwq⟩:∃y:World,y=w1.alloc (.cells #[.int .i64 x.kind,.int .i64 x.deed,.int .i64 x.house,.slice ap x.parts.length cp] 95):=⟨_,rfl⟩
  have R7:Hid (wq.heap[w1.heap.size]? =some (.cells #[.int .i64 x.kind,.int .i64 x.deed,.int .i64 x.house,.slice ap x.parts.length cp] 95 (0,0))):=η (by rw [hwq];exact row_new _ _)
  have R5Q:Hid (wq.heap[w.heap.size]? =some (.cells #[.int .i64 0,.int .i64 0,.int .i64 0,.slice none 0 0] 95 (0,0))):=η (by rw [hwq];exact heap_later R5.o _)
  have G1Q:Hid (Grow w1 wq):=η (by rw [hwq];exact(Grow.refl _).alloc _)
  have HZ1:Hid (w.heap.size<w1.heap.size):=η (γ R5.o)
  rw [←hwq]
  clear hwq R5
  obtain⟨B7,hB7⟩:∃B,B=w1.heap.size:=⟨_,rfl⟩
  rw [←hB7] at R7 ⊢
  have HB7:=η hB7
  clear hB7
  have hwr:IntKind.i64.wrap ((i:Int)+1)=(i:Int)+1:=IntWalk.i64_in _ (by omega)
  have HS:Hid (∀W:World,W.heap[B7]? =some (.cells #[.int .i64 x.kind,.int .i64 x.deed,.int .i64 x.house,.slice ap x.parts.length cp] 95 (0,0))→W.cell? ⟨B7,0,none⟩=some (.int .i64 x.kind)∧W.cell? ⟨B7,1,none⟩=some (.int .i64 x.deed)∧W.cell? ⟨B7,2,none⟩=some (.int .i64 x.house)∧W.cell? ⟨B7,3,none⟩=some (.slice ap x.parts.length cp)):=fun W hW=>cells4 hW
  refine but_start (fun w'=>w'.cell? ⟨B7,0,none⟩=some (.int .i64 x.kind)∧w'.cell? ⟨B7,1,none⟩=some (.int .i64 x.deed)∧w'.cell? ⟨B7,2,none⟩=some (.int .i64 x.house)∧w'.cell? ⟨B7,3,none⟩=some (.slice ap x.parts.length cp)) 10 (by kernel_rfl) ?_
  obtain⟨wd,hWd⟩:∃x:World,x=wq.drew:=⟨_,rfl⟩
  rw [←hWd]
  have GD:Grow wq wd:=by rw [hWd];exact(Grow.refl _).drew
  have zD:wq.heap.size=wd.heap.size:=by rw [hWd];rfl
  have ZD:=η zD
  clear hWd zD
  refine bLm [0,2,3,4,6,7] 13 (by kernel_rfl) (fun _ _ _ _ _ h=>h) (HS.o _ (row_grow R7.o GD)) ?_
  repeat (refine tNm (v:=?_) rfl (by rfl) ?_ ?_;rotate_left;(· (intro w' hSw;(try dsimp only at hSw);obtain⟨hs0,hs1,hs2,hs3⟩:=hSw;go_simp<;>with_reducible rfl));try simp only [Act.put,lzA,lzB,lzC,lzD,lzE,lzF])
  refine tEm ?_
  refine bO 1 (by kernel_rfl) rfl ?_
  intro K HK
  try simp only [lzA,lzB,lzC]
  go_simp
  go_at_call 45
  refine(HON.o wd (G1.o.trans (G1Q.o.trans GD))).mono ?_
  rintro e2 w2 ⟨v2,rfl,hown,hb2⟩
  have HLT:=η hown.lt
  have HB2:=η hb2
  have R7_2:=η (row_grow (row_grow R7.o GD) hb2)
  have R5_2:=η (row_grow (row_grow R5Q.o GD) hb2)
  obtain⟨css,k1,k2,k3⟩:=id hown
  obtain⟨-,⟨-,hn⟩|⟨g,cap2,cur,rfl,-⟩⟩:=id k1
  ·omega
  have K1:=η k1
  have K2:=η k2
  have K3:=η k3
  have HZQ:Hid (B7<wd.heap.size):=η (by have:=(Array.getElem?_eq_some_iff.1 (row_grow R7.o GD)).1;exact this)
  have HGG:Hid (wd.heap.size≤g):=η ((HLT.o g rfl).1)
  clear hown hb2 k1 k2 k3
  refine HK.o _ _ ⟨fun _=>HS.o _ R7_2.o,?_⟩
  clear HK K
  try simp only [Act.put,lzA,lzB,lzC,lzD,lzE,lzF]
  refine bO 5 (by kernel_rfl) rfl ?_
  intro K HK
  try simp only [lzA,lzB,lzC]
  go_simp
  go_at_call 71
  refine(delete_bts (i:=i) K1.o hi (fun u hu=>?one)).mono ?_
  case one=>
   obtain⟨cs,hcs,huc⟩:=List.mem_flatten.1 hu
   obtain⟨j,hj,rfl⟩:=List.mem_iff_getElem.1 hcs
   exact one_Tsl Ty.byte _ _ _ (K3.o j css[j] l[j] (by simp) (by have:=K2.o;simp)) u huc
  rintro e3 w3 ⟨rfl,ho3,hg3⟩
  have HO3:=η ho3
  have HG3:=η hg3
  have R7_3:=η (row_by R7_2.o hg3 (by have:=HZQ.o;have:=HGG.o;intro e9;have:=Option.some.inj e9;omega))
  have R5_3:=η (row_by R5_2.o hg3 (by have:=HZQ.o;have:=HGG.o;have:=HZ1.o;have:=HB7.o;intro e9;have:=Option.some.inj e9;omega))
  clear ho3 hg3
  refine HK.o _ _ ⟨fun _=>HS.o _ R7_3.o,?_⟩
  clear HK K
  try simp only [Act.put,lzA,lzB,lzC,lzD,lzE,lzF]
  refine bO 8 (by kernel_rfl) rfl ?_
  intro K HK
  try simp only [lzA,lzB,lzC]
  go_simp
  refine HK.o _ _ ⟨fun _=>HS.o _ R7_3.o,?_⟩
  clear HK K
  try simp only [Act.put,lzA,lzB,lzC,lzD,lzE,lzF]
  refine bO 9 (by kernel_rfl) rfl ?_
  intro K HK
  refine wanted_go rfl ?_
  try simp only [lzA,lzB,lzC]
  refine wp_store_row (.tmp 5) (.tmp 34) rfl rfl rfl R5_3.o info_ms rfl rfl ?_
  intro w4 r4 g4
  refine HK.o _ _ ⟨fun _=>HS.o _ (row_by R7_3.o g4 (by have:=HZ1.o;have:=HB7.o;intro e9;have:=Option.some.inj e9;omega)),?_⟩
  clear HK K
  try simp only [Act.put]
  refine bO 10 (by kernel_rfl) rfl ?_
  intro K HK
  try simp only [lzA,lzB,lzC]
  go_simp
  refine HK.o _ _ ⟨fun h=>absurd rfl h,?_⟩
  clear HK K
  try simp only [Act.put,lzA,lzB,lzC,lzD,lzE,lzF]
  refine but_done (by kernel_rfl) ?_
  obtain⟨p0,p1,p2,p3⟩:=cells4 r4
  go_wp2
  refine bodyPost_ret (v:=.tuple #[.slice (some ⟨g,0,none⟩) (l.length - 1) cap2,.agg #[.int .i64 x.kind,.int .i64 x.deed,.int .i64 x.house,.slice ap x.parts.length cp],.int .i64 er]) (by simp [results,Tryz.results38,go_sem,p0,p1,p2,p3]) rfl ?_
  rw [HE.o]
  have hz:=HZ1.o
  have hzq:=HZQ.o
  have hgg:=HGG.o
  have hb7:=HB7.o
  have hw2:=HB2.o.size
  have GW2:Grow w w2:=G1.o.trans (G1Q.o.trans (GD.trans HB2.o))
  have GW3:Grow w w3:=GW2.grown HG3.o (fun q hq=>by obtain rfl:=Option.some.inj hq;omega)
  have GW4:Grow w w4:=GW3.grown g4 (fun q hq=>by obtain rfl:=Option.some.inj hq;omega)
  refine⟨_,_,rfl,?_,?_,GW4⟩
  ·refine((OwnC.erase (T:=Ty.bs) K2.o K3.o (c':=fr w w4 [some g]) ?_ hi HO3.o).kept g4 (.inr (by simp [Value.ownBlock];omega))).base (b':=w.heap.size) (by omega)
   refine fr_out (by omega) fun k hk hk2 hk3=>?_
   have hkg:k≠g:=by simpa [Value.ownBlock] using hk3
   refine⟨?_,by simpa using hkg⟩
   rw [g4.block k (Nat.lt_of_lt_of_le hk2 HG3.o.size) (fun e9=>by have:=Option.some.inj e9;omega),HG3.o.block k hk2 (fun e9=>hkg (Option.some.inj e9))]
  ·refine HX.o.mono fun a9 u9 e9=>?_
   unfold ov at e9 ⊢
   split at e9
   ·cases e9
   ·rename_i hn9
    have hl9:=World.block_lt_of_cell? w1 a9 e9
    have hn8:w.heap.size+1≤a9.block:=by simp at hn9;omega
    rw [if_neg (by omega)]
    have e8:=HB2.o.sub _ _ (GD.sub _ _ (G1Q.o.sub _ _ e9))
    rw [by_cell g4 (by have:=HG3.o.size;omega) (by omega),by_cell HG3.o (by omega) (by omega)]
    exact e8
 ·have HE:=η (show takeB l n=(l,ms0,6) by unfold takeB;rw [if_neg hin])
  have hcase:n<0∨(0≤n∧(l.length:Int)≤n):=by omega
  clear hin hel
  rcases hcase with h0|⟨h0,h9⟩
  all_goals
   go_enter Tryz.func38,Tryz.ntmps38
   go_wp2_with fail
   refine(HON.o _ ((Grow.refl _).alloc _)).mono ?_
   rintro e w1 ⟨v1,rfl,hown,hb⟩
   obtain⟨av,cv,rfl⟩:=hown.form
   have HLT:=η hown.lt
   have HOWN:=η hown
   have R5:=η (row_grow (row_new w (.cells #[.int .i64 0,.int .i64 0,.int .i64 0,.slice none 0 0] 95)) hb)
   have HB:=η (((Grow.refl w).alloc (.cells #[.int .i64 0,.int .i64 0,.int .i64 0,.slice none 0 0] 95)).trans hb)
   have HBS:Hid (w.heap.size+1≤w1.heap.size):=η (by have:=hb.size;simp at this;omega)
   clear hown hb
   go_wp2_with (first|(refine wpList_store_row rfl (.tmp 5) (.tmp 19) rfl rfl rfl R5.o info_ms rfl rfl ?_))
   intro w4 r4 g4
   obtain⟨p0,p1,p2,p3⟩:=cells4 r4
   go_wp2
   refine bodyPost_ret (v:=.tuple #[.slice av l.length cv,.agg #[.int .i64 0,.int .i64 0,.int .i64 0,.slice none 0 0],.int .i64 6]) (by simp [results,Tryz.results38,go_sem,p0,p1,p2,p3]) rfl ?_
   rw [HE.o]
   refine⟨_,_,rfl,((HOWN.o.mono ?_).kept g4 ?_).base (b':=w.heap.size) (by simp),of_ms0 _,HB.o.grown g4 (fun q hq=>by obtain rfl:=Option.some.inj hq;exact Nat.le_refl _)⟩
   ·refine fr_out (by simp) fun k hk hk2 hk3=>⟨g4.block k hk2 (fun e9=>by have:=Option.some.inj e9;simp at hk;omega),hk3⟩
   ·cases e9:(Value.slice av l.length cv).ownBlock with
    |none=>exact .inl rfl
    |some q=>exact .inr (by have:=(HLT.o q e9).1;simp at this;intro e8;have:=Option.some.inj e8;omega)
end Go.Proofs.YthfgeelcbcgahaaGreatDoor
