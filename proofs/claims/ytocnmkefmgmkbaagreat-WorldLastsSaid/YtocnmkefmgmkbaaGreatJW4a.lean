/- Parts of proofs, joined: R2, B1, B5, Y0, Z1, Str, Z2, Y2, Y1, V2, R3, B2, Y6, Y3, Y5, Y7, R1, Y4, Y8, R5, R6, R7, R8, B4, R9, R10, Lit, A4, A2, K17, Z3, Z5, Z6, Q2, Q3, Q4, Q5, Q6, Q7, U0, Q8. No condition beside those that each theorem names. -/
import Derived.Laws.BitsAllLaws
import Derived.Laws.Bits64
import Derived.Laws.BytesArg
import Derived.Lib.SlBytesRow
import Derived.Sort.OwnSortedInts
import Derived.Test.YtocnmkefmgmkbaaGreatShelf
import Derived.IntWalk
import Derived.Deep.Cut
import Derived.Deep.DeepCutAuto
import Derived.Laws.CopyRow
import Derived.Test.YtocnmkefmgmkbaaGreatJW1b
import Derived.Test.YtocnmkefmgmkbaaGreatJW6a
set_option maxRecDepth 100000
set_option maxHeartbeats 40000000
namespace Go.Proofs.YtocnmkefmgmkbaaGreat
open Go.RowKit
theorem g_ {w w':World} {base:Nat} {e:TypeId} {size n:Nat} {v:Value} {xs:List Value} (h:w.ownsRow base e size v n xs) (hg:Grow w w'):w'.ownsRow base e size v n xs:=
 h.kept (ak hg none) (by cases v.ownBlock with|none=>exact .inl rfl|some k=>exact .inr σ)
theorem VJ (l:List Pt) (n:Int):(l.any fun p=>p.h==n)=decide (0<(jF l n).length):=by
 unfold jF;rw [Bool.eq_iff_iff,List.any_eq_true,decide_eq_true_eq,List.length_pos_iff_exists_mem];constructor
 ·rintro⟨p,hp,h⟩;exact⟨p,List.mem_filter.2 ⟨hp,h⟩⟩
 ·rintro⟨p,hp⟩;exact⟨p,(List.mem_filter.1 hp).1,(List.mem_filter.1 hp).2⟩
def lT (l:List Pt) (k:Nat):List Int:=(([0,1,2]:List Int).take k).filter fun n=>l.any fun p=>p.h==n
theorem TG (l:List Pt) {k:Nat} (h:k<3):lT l (k+1)=lT l k++if 0<(jF l k).length then [(k:Int)] else []:=by
 have e:([0,1,2]:List Int).take (k+1)=([0,1,2]:List Int).take k++ [(k:Int)]:=by
  match k,h with
  |0,_=>rfl
  |1,_=>rfl
  |2,_=>rfl
 unfold lT;rw [e,List.filter_append];congr 1;by_cases h0:0<(jF l k).length
 ·rw [if_pos h0,List.filter_cons_of_pos (by rw [VJ];exact decide_eq_true h0)];rfl
 ·rw [if_neg h0,List.filter_cons_of_neg (by rw [VJ];simpa using h0)];rfl
theorem I_ (l:List Pt) (k:Nat):(lT l k).length<=3:=Nat.le_trans (List.length_filter_le _ _) (by simp;omega)
theorem xw {v:Value} {l:List Pt} (w:World) (hv:m_ w.cell? v l) (hm:l.length*24<=140737488355328):
  Calls Tryz.prog 99 #[v] w fun e w'=>∃v',e=.returned v'/\w'.ownsRow w.heap.size 3 1 v' (aX l).length ((aX l).flatMap dB)/\Grow w w':=by
 have sB:=η (fun(n:Int) (W:World) (hW:Grow w W)=>Ve (n:=n) W (hv.mono hW.sub) hm);clear hv;go_enter Tryz.func99,Tryz.ntmps99;go_wp2;go_loopw [3,4,5] (fun v _ i wr=>∃k:Nat,k<=3/\i=ι k/\Grow w wr/\wr.ownsRow w.heap.size 3 1 v (lT l k).length ((lT l k).flatMap dB)) (fun _ _ i _=>3 - (intOf i).toNat)
 case atStart=>exact⟨0,δ,rfl,Grow.refl _,World.ownsRow_nil _ _ _ _⟩
 case round=>
  obtain⟨k,hk',rfl,hb,hown⟩:=hrel;by_cases hlt:k<3
  ·have HD:=η (TG l hlt)
   have hle:=I_ l k;have HL:=η (show(jF l k).length=(jF l k).length from rfl);have HB:=η hb;have HOW:=η hown;generalize lT l k=acc at*;clear hown hb;go_wp2_with fail
   refine(sB.o _ _ HB.o).mono ?_;rintro e w1 ⟨v1,rfl,hown1,hb1⟩;obtain⟨a1,c1,rfl⟩:=aY hown1;have HB1:=η (HB.o.trans hb1);have uI:=η (g_ HOW.o hb1);clear hown1 hb1;generalize (jF l k).length=m at*;by_cases h0:0<m
   ·have HD1:=η (show lT l (k+1)=acc++ [(k:Int)] by rw [HD.o,if_pos h0])
    go_wp2_with (at_builtin;refine app1 iM rfl _ _ rfl HB1.o rfl uI.o rfl σ rfl (by simp [Value.oneCell']) δ ε ?_;intro v' w' hown' hb' _)
    go_roundw
    case rel=>exact⟨k+1,δ,by go_num,hb',by rw [HD1.o];simpa [dB] using hown'⟩
    case measure=>simp [intOf];omega
   ·obtain rfl:m=0:=by omega
    have HD1:=η (show lT l (k+1)=acc by rw [HD.o,if_neg h0,List.append_nil]);go_wp2_with fail
    go_roundw
    case rel=>exact⟨k+1,δ,by go_num,HB1.o,by rw [HD1.o];exact uI.o⟩
    case measure=>simp [intOf];omega
  ·obtain rfl:k=3:=by omega
   go_wp2;go_ret;exact⟨_,rfl,hown,hb⟩
end Go.Proofs.YtocnmkefmgmkbaaGreat
namespace Go.Proofs.YtocnmkefmgmkbaaGreat
def vU (s:Nat) (c:UInt8):Nat:=(s*263+c.toNat+1) % 65521
def oK (s:Nat) (b:List UInt8):Nat:=b.foldl vU s
def qW (b:List UInt8):Nat:=oK 5 b
theorem OA (s:Nat) (c:UInt8):vU s c<65521:=Nat.mod_lt _ ε
theorem sW:∀(b:List UInt8) {s:Nat},s<65521->oK s b<65521
 | [],_,h=>h
 |c::b,_,_=>sW b (OA _ c)
theorem yJ (b:List UInt8):qW b<65521:=sW b ε
def varint (u:Nat):List UInt8:=if u<128 then [UInt8.ofNat u] else UInt8.ofNat (u % 128+128)::varint (u/128)
termination_by u
decreasing_by omega
theorem lU {u:Nat} (h:u<128):varint u=[UInt8.ofNat u]:=by rw [varint,if_pos h]
theorem sZ {u:Nat} (h:¬u<128):varint u=UInt8.ofNat (u % 128+128)::varint (u/128):=by rw [varint,if_neg h]
theorem xA (u:Nat):0<(varint u).length:=by
 by_cases h:u<128
 ·rw [lU h];simp
 ·rw [sZ h];simp
def zig (n:Int):Nat:=if n<0 then 2*(-n - 1).toNat+1 else 2*n.toNat
def zag (u:Nat):Int:=if u % 2=1 then -((u/2:Nat):Int) - 1 else((u/2:Nat):Int)
theorem YL (n:Int):zag (zig n)=n:=by
 unfold zag zig;by_cases h:n<0
 ·rw [if_pos h,if_pos δ];omega
 ·rw [if_neg h,if_neg δ];omega
def fU (n:Int):List UInt8:=varint (zig n)
def lG (i u:Nat):List UInt8->Int×Int×Int
 | []=>(0,0,8)
 |c::b=>if 6<=i then(0,0,3) else if 128<=c.toNat then lG (i+1) (u+c.toNat % 128*128^i) b
  else if 0<i/\c.toNat=0 then(0,0,2) else(zag (u+c.toNat % 128*128^i),(i:Int)+1,0)
def dP (b:List UInt8):Int×Int×Int:=lG 0 0 b
theorem lH {u:Nat} (h:u<256):(UInt8.ofNat u).toNat=u:=by rw [UInt8.toNat_ofNat'];omega
theorem OB:∀(v i u:Nat) (b:List UInt8),i<6->v<128^(6 - i)->(0<v∨i=0)->lG i u (varint v++b)=(zag (u+v*128^i),(i:Int)+(varint v).length,0):=by
 intro v;induction v using Nat.strongRecOn with
 |ind v ih=>
  intro i u b hi hv h0;by_cases h:v<128
  ·rw [lU h,List.singleton_append,lG,if_neg δ,lH δ,if_neg δ,if_neg δ,Nat.mod_eq_of_lt h]
   simp
  ·have hi5:i+1<6:=by
    by_cases h5:i=5
    ·subst h5
     have:(128:Nat)^(6 - 5)=128:=rfl;omega
    ·omega
   have hp:(128:Nat)^(6 - i)=128*128^(6 - (i+1)):=by rw [show 6 - i=(6 - (i+1))+1 by omega,Nat.pow_succ,Nat.mul_comm]
   rw [sZ h,List.cons_append,lG,if_neg δ,lH δ,if_pos δ,show(v % 128+128) % 128=v % 128 by omega,
    ih (v/128) δ (i+1) _ b hi5 (by rw [hp] at hv;exact Nat.div_lt_of_lt_mul hv) (.inl δ)]
   have e:u+v % 128*128^i+v/128*128^(i+1)=u+v*128^i:=by
    have h1:v/128*128^(i+1)=128*(v/128)*128^i:=by rw [Nat.pow_succ,Nat.mul_comm (128^i) 128,<-Nat.mul_assoc,Nat.mul_comm (v/128) 128]
    rw [h1,Nat.add_assoc,<-Nat.add_mul,Nat.mod_add_div]
   rw [e];simp only [List.length_cons,Prod.mk.injEq,true_and,and_true];push_cast;omega
theorem YM {n:Int} (b:List UInt8) (h:zig n<128^6):dP (fU n++b)=(n,((fU n).length:Int),0):=by
 unfold dP fU;rw [OB _ 0 0 b δ h (.inr rfl)];simp [YL]
end Go.Proofs.YtocnmkefmgmkbaaGreat
namespace Go.Proofs.YtocnmkefmgmkbaaGreat
open Go.RowKit
theorem sC:∀x:Nat,x<256->x|||128=x % 128+128:=by decide
theorem OC {x:Nat} (h:x<256):bits .or .u8 (x:Int) 128=((x % 128+128:Nat):Int):=by
 have:=u8_or_nat x 128 h ε;rw [sC x h] at this;simpa using this
theorem Lm {x:Nat} (h:x<256):bits .and .u8 (x:Int) 127=((x % 128:Nat):Int):=by
 have:=u8_and_nat x 127 h ε;rw [nat_mask7] at this;simpa using this
theorem TI {x:Nat} (h:x<18446744073709551616):bits .and .u64 (x:Int) 1=((x % 2:Nat):Int):=by
 have:=u64_and_nat x 1 h ε;rw [nat_mask1] at this;simpa using this
theorem eJ (i:Nat):(2:Nat)^(7*i)=128^i:=by rw [Nat.pow_mul]
theorem OD {u v i:Nat} (hu:u<128^i) (hv:v<128) (hi:i<6):bits .or .u64 (u:Int) ((v*128^i:Nat):Int)=((u+v*128^i:Nat):Int):=by
 have h6:(128:Nat)^i<=128^5:=Nat.pow_le_pow_right ε δ;have h5:(128:Nat)^5=34359738368:=by decide
 have hm:v*128^i<=127*128^i:=Nat.mul_le_mul_right _ δ;rw [u64_or_nat u (v*128^i) δ δ,Nat.or_comm,nat_join (7*i) (v*128^i) u (by rw [eJ];exact Nat.mul_mod_left _ _) (by rw [eJ];exact hu),Nat.add_comm]
theorem Lp (b:Nat) (hb:b<2^64):(2^64 - 1)^^^b=2^64 - 1 - b:=by
 apply Nat.eq_of_testBit_eq;intro i;rw [Nat.testBit_xor,Nat.testBit_two_pow_sub_one,show 2^64 - 1 - b=2^64 - (b+1) by omega,Nat.testBit_two_pow_sub_succ hb];by_cases hi:i<64
 ·simp [hi]
 ·have:b.testBit i=false:=Nat.testBit_lt_two_pow (Nat.lt_of_lt_of_le hb (Nat.pow_le_pow_right ε δ))
  simp [hi,this]
theorem BA {x:Nat} (h:x<18446744073709551616):(BitVec.ofInt 64 (x:Int)).toNat=x:=ofInt_u64 x h
theorem VK {u:Nat} (h:u<9223372036854775808):bits .xor .i64 ((u/2:Nat):Int) (-((u % 2:Nat):Int))=zag u:=by
 show IntKind.i64.wrap ((BitVec.ofInt 64 ((u/2:Nat):Int)^^^BitVec.ofInt 64 (-((u % 2:Nat):Int))).toNat:Int)=_;unfold zag;by_cases h1:u % 2=1
 ·rw [if_pos h1,h1,BitVec.toNat_xor,BA δ,show(BitVec.ofInt 64 (-((1:Nat):Int))).toNat=2^64 - 1 by decide,Nat.xor_comm,Lp _ δ,IntKind.wrap_i64]
  omega
 ·have h0:u % 2=0:=by omega
  rw [if_neg h1,h0,BitVec.toNat_xor,BA δ,show(BitVec.ofInt 64 (-((0:Nat):Int))).toNat=0 by decide,Nat.xor_zero,IntKind.wrap_i64];omega
theorem VL {n:Int} (h0:-9223372036854775808<=n) (h1:n<=9223372036854775807):bits .xor .u64 ((n*2) % 18446744073709551616) (if n<0 then 18446744073709551615 else 0)=((zig n:Nat):Int):=by
 unfold zig;by_cases h:n<0
 ·rw [if_pos h,if_pos h]
  have e1:(n*2) % 18446744073709551616=(((2*n+18446744073709551616).toNat:Nat):Int):=by omega
  have e2:(18446744073709551615:Int)=((18446744073709551615:Nat):Int):=rfl;rw [e1,e2,u64_xor_nat _ _ δ ε,Nat.xor_comm];have:=Lp (2*n+18446744073709551616).toNat δ;rw [show(2:Nat)^64 - 1=18446744073709551615 by decide] at this;rw [this];omega
 ·rw [if_neg h,if_neg h]
  have e1:(n*2) % 18446744073709551616=(((2*n).toNat:Nat):Int):=by omega
  have e2:(0:Int)=((0:Nat):Int):=rfl;rw [e1,e2,u64_xor_nat _ _ δ ε,Nat.xor_zero];omega
abbrev OwnB (w:World) (base:Nat) (v:Value) (b:List UInt8):Prop:=w.ownsRow base 5 1 v b.length (b.flatMap fA)
def jh (w w':World) (v v':Value):Prop:=w.grownBy w' v.ownBlock/\(v'.ownBlock=v.ownBlock∨∃g,v'.ownBlock=some g/\w.heap.size<=g)
theorem jh.refl (w:World) (v:Value):jh w w v v:=⟨⟨rfl,rfl,rfl,Nat.le_refl _,fun _ _ _=>rfl⟩,.inl rfl⟩
theorem jh.trans {a b c:World} {u v x:Value} (h:jh a b u v) (k:jh b c v x):jh a c u x:=by
 obtain⟨h1,h2⟩:=h;obtain⟨k1,k2⟩:=k;refine⟨⟨k1.os.trans h1.os,k1.tape.trans h1.tape,k1.output.trans h1.output,Nat.le_trans h1.size k1.size,fun i hi hne=>?_⟩,?_⟩
 ·rw [k1.block i (Nat.lt_of_lt_of_le hi h1.size),h1.block i hi hne]
  intro e;rcases h2 with h2|⟨g,h2,hg⟩
  ·exact hne (e.trans h2)
  ·rw [h2] at e
   obtain rfl:=Option.some.inj e;omega
 ·rcases k2 with k2|⟨g,k2,hg⟩
  ·rcases h2 with h2|⟨g,h2,hg⟩
   ·exact .inl (k2.trans h2)
   ·exact .inr ⟨g,k2.trans h2,hg⟩
  ·exact .inr ⟨g,k2,Nat.le_trans h1.size hg⟩
theorem jh.grow {a b c:World} {u v:Value} (h:jh a b u v) (k:Grow b c):jh a c u v:=h.trans ⟨ak k _,.inl rfl⟩
theorem jh.ahead {a b c:World} {u v:Value} (k:Grow a b) (h:jh b c u v):jh a c u v:=jh.trans (v:=u) ⟨ak k _,.inl rfl⟩ h
theorem jh.all {w0 w w':World} {v v':Value} (hG:Grow w0 w) (h:jh w w' v v') (hv:∀k,v.ownBlock=some k->w0.heap.size<=k):Grow w0 w':=hG.grown h.1 hv
theorem jh.nil {w w':World} {v':Value} (h:jh w w' (ς none 0 0) v'):Grow w w':=(Grow.refl w).grown h.1 (fun k hk=>by simp [Value.ownBlock] at hk)
theorem D5 (a b:List UInt8):a.flatMap fA++b.flatMap fA=(a++b).flatMap fA:=by rw [List.flatMap_append]
theorem Lr {w0:World} {cs:Array Value} {t:TypeId} {ops:Array Oper} {rest:List Oper} {o:Oper} {a:Act} {Q:Exit->Act->World->Prop} (hgd:o.guard=none) (s x:Operand)
  (ho:o.op=.call { callee:=.builtin .append,args:=#[s,x],argTypes:=#[97,97] })
  {base:Nat} {v:Value} {b:List UInt8} (hs:a.eval s=v) (hown:OwnB w0 base v b) (hbase:base<=w0.heap.size)
  {g n c:Nat} (hx:a.eval x=ς (some ⟨g,0,none⟩) n c) (hg:g=w0.heap.size) (ys:List UInt8) (hy:cs.toList=ys.flatMap fA) (hn:n=ys.length)
  (hlen:b.length+ys.length<=140737488355328)
  (h:∀v' w',OwnB w' base v' (b++ys)->jh w0 w' v v'->wpList Tryz.prog ops Q rest (a.put o.dst v') w'):wpList Tryz.prog ops Q (o::rest) a (w0.alloc (.cells cs t)):=by
 subst hg;subst hn;have hG:Grow w0 (w0.alloc (.cells cs t)):=(Grow.refl w0).alloc _;have hone:∀u∈cs.toList,u.oneCell'=true:=by rw [hy];exact rC one_byte ys
 refine Dl yc hgd s x ho hs (hown.alloc _) (some ⟨w0.heap.size,0,none⟩) ys.length c cs.toList hx σ (by rw [hy,nI (size:=1) (fun _=>rfl)]) (fun ad had=>by obtain rfl:=Option.some.inj had;exact mJ w0 cs t) hone (by unfold maxLen;omega) δ (τ hG.size) fun a' c' w' hA=>?_;have h1:=hA.own;rw [hy,D5] at h1;refine h _ w' ?_ (jh.ahead hG ⟨hA.grown,hA.blk⟩);have e:b.length+ys.length=(b++ys).length:=by simp
 rw [e] at h1 ⊢;exact h1
theorem cZ {n:Int} (h:I64 n):-9223372036854775808<=n/\n<=9223372036854775807:=by
 simp [I64,Lit.wf,IntKind.min,IntKind.max,IntKind.signed,IntKind.bits] at h;omega
theorem D6:∀(k u:Nat),u<128^k->(varint u).length<=k∨(k=0/\(varint u).length=1)
 |0,u,h=>by
  refine .inr ⟨rfl,?_⟩;rw [lU (by simp at h;omega)];rfl
 |k+1,u,h=>by
  by_cases hs:u<128
  ·rw [lU hs];exact .inl σ
  ·rw [sZ hs]
   have h2:u/128<128^k:=by
    rw [Nat.pow_succ] at h;exact Nat.div_lt_of_lt_mul (by rw [Nat.mul_comm];exact h)
   rcases D6 k (u/128) h2 with h3|⟨rfl,h3⟩
   ·exact .inl (by simpa using h3)
   ·exfalso
    simp at h2;omega
theorem iP {n:Int} (h0:-9223372036854775808<=n) (h1:n<=9223372036854775807):(fU n).length<=10:=by
 unfold fU;have hz:zig n<128^10:=by
  have e:(128:Nat)^10=1180591620717411303424:=by decide
  rw [e];unfold zig;split<;>omega
 rcases D6 10 _ hz with h|⟨h,-⟩
 ·exact h
 ·omega
theorem mV (x:Nat):((UInt8.ofNat x).toNat:Int)=((x % 256:Nat):Int):=by rw [UInt8.toNat_ofNat']
theorem Ls (s:Nat) (b:List UInt8) (k:Nat) (h:k<b.length):oK s (b.take (k+1))=vU (oK s (b.take k)) b[k]:=by
 rw [List.take_succ_eq_append_getElem h];unfold oK;rw [List.foldl_append];rfl
abbrev Ty.bs:=Ty.sl Ty.byte
abbrev uH:=Sl Ty.bs
theorem aI.bytes {c:CM} {w:World} {base:Nat} {v:Value} {l:List UInt8} (h:OwnB w base v l):aI Ty.byte c w base 5 v l:=
 aI.of_flat (T:=Ty.byte) (f:=fA) h fun _ _=>rfl
theorem Ja {W0 w1 w:World} {v:Value} {l:List UInt8} {X:List (Option Nat)} (h:OwnB w w1.heap.size v l) (hW:W0.heap.size<=w1.heap.size) (hX:∀k,w1.heap.size<=k->some k∉X):Sl Ty.byte (fr W0 w X) v l:=
 (aI.bytes (c:=fr W0 w X) h).slc ε (Sub.refl _) fun a ha=>gy δ (hX _ ha)
theorem uH.at_ {c:CM} {a:Option Addr} {l:List (List UInt8)} (h:∀i x,l[i]? =some x->∃b o cs,a=some ⟨b,o,none⟩/\Ty.bs.R c cs x/\At c b (o+i*Ty.bs.size) cs) (k:Nat) (hk:k<l.length):
  ∃b o v,a=some ⟨b,o,none⟩/\c ⟨b,o+k,none⟩=some v/\Sl Ty.byte c v l[k]:=by
 obtain⟨b,o,cs,ha,⟨v,rfl,hR⟩,hA⟩:=h k l[k] (by simp [hk]);refine⟨b,o,v,ha,?_,hR⟩;have:=hA 0 _ rfl;simpa [Ty.sl] using this
theorem CV {v:Value} {l:List (List UInt8)} (w:World) (hv:uH w.cell? v l) (hm:l.length*24<=140737488355328) (hp:∀b∈l,b.length<=140737488355328):
  Calls Tryz.prog 61 #[v] w fun e w'=>∃v',e=.returned v'/\aI Ty.bs (fr w w' [v'.ownBlock]) w' w.heap.size 97 v' l/\Grow w w':=by
 obtain⟨a,cap,rfl,h1,h2,-,hel⟩:=hv;unfold maxLen at h2;have HM:=η hm;have HP:=η hp;clear hm hp;go_enter Tryz.func61,Tryz.ntmps61;go_wp2;go_loopw [3,8] (fun s3 i wr=>∃k:Nat,k<=l.length/\i=ι k/\Grow w wr/\aI Ty.bs (fr w wr [s3.ownBlock]) wr w.heap.size 97 s3 (l.take k)) (fun _ i _=>l.length - (intOf i).toNat)
 case atStart=>exact⟨0,δ,rfl,Grow.refl _,aI.nil _ _ _ _ _⟩
 case round=>
  obtain⟨k,hk',rfl,hb,hown⟩:=hrel;by_cases hlt:k<l.length
  ·obtain⟨b,o,vp,rfl,c0,hP⟩:=uH.at_ hel k hlt
   obtain⟨ap,cp,rfl,-⟩:=id hP;replace c0:=hb.sub _ _ c0;have htk:l.take (k+1)=l.take k++ [l[k]]:=by rw [List.take_succ_eq_append_getElem hlt]
   have kY:=η htk;have hpl:=HP.o l[k] (List.getElem_mem _);have CS:=η (fun(W:World) (hW:Grow wr W)=>Dz W (hP.mono (hb.trans hW).sub) δ);have hlk:(l.take k).length=k:=by simp;omega
   have HOWN:=η hown;obtain⟨av,cv,rfl⟩:=hown.form;clear hel hP htk hpl hown;generalize l[k]=r at*;generalize hlt':l.take k=lk at*;have S_:=η hlt';have FK:=η hlk;clear hlt' hlk;go_wp2_with fail
   refine(CS.o _ (Grow.refl _)).mono ?_;rintro e w2 ⟨v2,rfl,ho2,hb2⟩;obtain⟨a2,cap2,rfl⟩:=aY ho2;have ql:=η ho2;have HB2:=η hb2;clear ho2 hb2;go_wp2_with (first|(at_builtin;refine aZ (c:=fr w (w2.alloc (.cells #[ς a2 r.length cap2] 97)) [(Value.slice av lk.length cv).ownBlock]) (base:=w.heap.size) (l:=lk) (m:=[r]) jU rfl (iZ Ty.byte) ε rfl (.tmp 12) (.tmp 15) rfl rfl ?own rfl (Src.bQ (T:=Ty.bs) (x:=r) (cs:=#[ς a2 r.length cap2]) ?d0 _ _ ?d1) ?d2 ?d3 ?_))
   case own=>exact(HOWN.o.mono (dO (HB2.o.alloc _))).grow (HB2.o.alloc _)
   case d0=>
    refine⟨_,rfl,?_⟩;have hlt2:=HOWN.o.lt;refine Ja (w1:=wr) ?_ hb.size ?_
    ·exact g_ ql.o ((Grow.refl _).alloc _)
    ·intro q hq
     simp only [List.mem_singleton];intro e;have:=(hlt2 q e.symm).2;omega
   case d1=>simp
   case d2=>have:=HM.o;have:=FK.o;simp;omega
   case d3=>have:=(HB2.o.alloc (.cells #[ς a2 r.length cap2] 97)).size;have:=hb.size;omega
   intro a5 c5 w5 hown5 hg5 hb5;have QG:Grow w w5:=bn (w0:=w) (hb.trans (HB2.o.alloc _)) hg5 (fun q hq=>(HOWN.o.lt q hq).1);have l9:=η (hown5.mono (pF hg5 (hb5.imp_right fun⟨g,e,hge⟩=>⟨g,e,by simpa using hge⟩)));have rG:=η QG;clear hown5 hg5 hb5 QG;go_wp2;go_roundw
   case rel=>exact⟨k+1,δ,by go_num,rG.o,by rw [kY.o];exact l9.o⟩
   case measure=>simp [intOf];omega
  ·clear hel
   go_wp2;go_ret;have h9:=hown;rw [List.take_of_length_le δ] at h9;exact⟨_,rfl,h9,hb⟩
def strOf (b:List UInt8):ByteArray:=⟨b.toArray⟩
theorem TJ {a b:List UInt8} (h:strOf a=strOf b):a=b:=by
 have:=congrArg (fun x:ByteArray=>x.data.toList) h;simpa [strOf] using this
theorem D7 (b:List UInt8):(strOf b).toList=b:=by
 rw [ByteArray.toList_eq];simp [strOf]
theorem OE (l:List UInt8):strOfNums (l.map fun y=>(y.toNat:Int))=strOf l:=by
 apply ByteArray.ext;apply Array.toList_inj.1;rw [strOfNums_data,List.map_map];refine(List.map_congr_left (g:=id) ?_).trans (by simp [strOf]);intro y _;simp
theorem D8 {w:World} {v:Value} {b:List UInt8} (h:Sz w.cell? v b):(convert 97 9 v).run Tryz.prog w=.ok (.string (strOf b)) w:=by
 obtain⟨a,cap,rfl,h1,h2,h3,hel⟩:=h;cases a with
 |none=>
  have:=h3 rfl;have hl:b=[]:=List.eq_nil_of_length_eq_zero δ;subst hl;exact run_convert_bytes_nil (P:=Tryz.prog) w 97 5 κ κ _ _ 9 κ
 |some ad=>
  cases b with
  |nil=>
   have hl:(loadCells ad 0).run Tryz.prog w=.ok (([]:List Int).map (Value.int .u8)).toArray w:=by
    have:=run_loadCells_list (P:=Tryz.prog) w ad [] (fun j v hj=>by simp at hj);simpa using this
   rw [run_convert_bytes_string w _ _ _ _ _ _ (show Tryz.prog.underlying 97=some (.slice 5) by kernel_rfl) κ κ];exact run_bytesToString w ad 0 cap [] hl
  |cons x l=>
   obtain⟨bb,o,cs,he,-,-⟩:=hel 0 x rfl;obtain rfl:=Option.some.inj he;have h9:=run_convert_bytes_arg (P:=Tryz.prog) w 97 5 κ κ bb o (x::l).length cap ((x::l).map fun y=>(y.toNat:Int)) σ (fun i hi=>by
    obtain⟨b2,o2,he2,hc⟩:=byteAt hel i hi;obtain⟨rfl,rfl⟩:bb=b2/\o=o2:=by simpa using he2
    rw [hc];rw [List.getD_eq_getElem?_getD,List.getElem?_map,List.getElem?_eq_getElem hi];rfl) 9 κ
   rw [h9,OE]
theorem Lu {v v':Value} {l l':List (List UInt8)} (w:World) (hv:uH w.cell? v l) (hv':uH w.cell? v' l'):
  Calls Tryz.prog 24 #[v,v'] w fun e w'=>e=.returned (.bool (decide (l=l')))/\Grow w w':=by
 obtain⟨a,cap,rfl,h1,h2,-,hel⟩:=hv;obtain⟨a',cap',rfl,h1',h2',-,jX⟩:=hv';unfold maxLen at h2 h2';by_cases hlen:l.length=l'.length
 ·have hb:((l.length:Int) !=l'.length)=false:=by simp [hlen]
  have HL:=η hlen;clear hlen;go_enter Tryz.func24,Tryz.ntmps24;go_wp2;go_loopw [4,5,13] (fun _ _ i wr=>∃k:Nat,k<=l.length/\i=ι k/\Grow w wr/\∀j,j<k->l[j]? =l'[j]?) (fun _ _ i _=>l.length - (intOf i).toNat)
  case atStart=>exact⟨0,δ,rfl,gY,fun j h=>δ⟩
  case round=>
   obtain⟨k,hk',rfl,hb,hE⟩:=hrel;by_cases hlt:k<l.length
   ·have hlt':k<l'.length:=by have:=HL.o;omega
    have H1:=η (rO hlt hlt' hE);have H2:Hid (¬l[k]=l'[k]->decide (l=l')=false):=fun h=>yH hlt hlt' h;clear hE;obtain⟨b,o,vp,rfl,c0,hP⟩:=uH.at_ hel k hlt;obtain⟨b',o',eI,rfl,c0',hP'⟩:=uH.at_ jX k hlt';replace c0:=hb.sub _ _ c0;replace c0':=hb.sub _ _ c0';have hcv:∀q,(convert 97 9 vp).run Tryz.prog (wr.drewN q)=.ok (.string (strOf l[k])) (wr.drewN q):=fun q=>D8 (hP.mono (hb.drewN q).sub);have hcv':∀q,(convert 97 9 eI).run Tryz.prog (wr.drewN q)=.ok (.string (strOf l'[k])) (wr.drewN q):=fun q=>D8 (hP'.mono (hb.drewN q).sub);have TK:Hid (strOf l[k]=strOf l'[k]->l[k]=l'[k]):=fun h=>TJ h;clear hel jX hP hP';generalize l[k]=p at*;generalize l'[k]=p' at*;by_cases hpp:strOf p=strOf p'
    ·have H3:=η (H1.o (TK.o hpp))
     generalize strOf p=s at*;generalize strOf p'=s' at*;subst hpp;clear H1 H2 TK;go_wp2_with (go_quiet (fail))
     go_roundw
     case rel=>exact⟨k+1,δ,by go_num,gY,H3.o⟩
     case measure=>simp [intOf];omega
    ·have H3:=η (H2.o (fun e9=>hpp (by rw [e9])))
     have hne:((strOf p).toList==(strOf p').toList)=false:=by
      rw [D7,D7,beq_eq_false_iff_ne];exact fun e9=>hpp (by rw [e9])
     generalize strOf p=s at*;generalize strOf p'=s' at*;clear hpp H1 H2 TK;go_wp2_with (go_quiet (fail))
     go_ret;exact⟨bK H3.o.symm,gY⟩
   ·have HE:=η hE
    clear hel jX hE;go_wp2;go_ret;refine⟨bK ?_,hb⟩;rw [eq_comm,decide_eq_true_eq];exact uS HL.o δ HE.o
 ·have hb:((l.length:Int) !=l'.length)=true:=by simp;omega
  have HE:Hid (decide (l=l')=false):=by show _=_;rw [decide_eq_false_iff_not];rintro rfl;exact hlen rfl
  clear hlen hel jX;go_enter Tryz.func24,Tryz.ntmps24;go_wp2;go_ret;exact⟨bK HE.o.symm,gY⟩
theorem YN {u:Nat} {y:Int} (hy:y=bits .or .u8 ((u % 256:Nat):Int) 128):y=((UInt8.ofNat (u % 128+128)).toNat:Int):=by
 rw [hy,OC δ,mV];omega
theorem VN {u:Nat} {z:UInt8} (hz:z=UInt8.ofNat (u % 128+128)):bits .or .u8 ((u:Int) % 256) 128=(z.toNat:Int):=by
 rw [hz];exact YN (by rw [Int.natCast_emod];rfl)
theorem yK {u:Nat} (_:u<128) {y:Int} (hy:y=((u % 256:Nat):Int)):y=((UInt8.ofNat u).toNat:Int):=by
 rw [hy,mV]
theorem D9 {pre:List UInt8} {u:Nat} {X:List UInt8} (h:pre++varint u=X) (hu:¬u<128):(pre++ [UInt8.ofNat (u % 128+128)])++varint (u/128)=X:=by
 rw [<-h,sZ hu,List.append_assoc];rfl
theorem D_ {pre:List UInt8} {u:Nat} {X:List UInt8} (h:pre++varint u=X) (hu:u<128):pre++ [UInt8.ofNat u]=X:=by
 rw [<-h,lU hu]
theorem VO {n:Int} (h0:-9223372036854775808<=n) (h1:n<=9223372036854775807):bits .xor .u64 (IntKind.u64.wrap (IntKind.u64.wrap n*2)) (IntKind.u64.wrap (n/9223372036854775808))=((zig n:Nat):Int):=by
 rw [<-VL h0 h1,IntKind.wrap_u64,IntKind.wrap_u64,IntKind.wrap_u64];have e1:n % 18446744073709551616*2 % 18446744073709551616=(n*2) % 18446744073709551616:=by omega
 have e2:n/9223372036854775808 % 18446744073709551616=if n<0 then 18446744073709551615 else 0:=by
  split<;>omega
 rw [e1,e2]
def UJ (u:Nat):Prop:=u<18446744073709551616
theorem UJ.div {u:Nat} (h:UJ u):UJ (u/128):=by unfold UJ at*;omega
theorem QN {n:Int} (h0:-9223372036854775808<=n) (h1:n<=9223372036854775807):UJ (zig n):=by unfold UJ zig;split<;>omega
theorem uT {base:Nat} {v:Value} {b:List UInt8} {n:Int} (w:World) (hown:OwnB w base v b) (hbase:base<=w.heap.size) (hn:I64 n) (hlen:b.length+10<=140737488355328):
  Calls Tryz.prog 126 #[v,ι n] w fun e w'=>∃v',e=.returned v'/\OwnB w' base v' (b++fU n)/\jh w w' v v':=by
 obtain⟨h0,h1⟩:=cZ hn;have HZ:=η (VO h0 h1);have HL:=η (iP h0 h1);have hz:=QN h0 h1;have HO:=η hown;obtain⟨a0,k0,rfl⟩:=aY hown;clear hown;go_enter Tryz.func126,Tryz.ntmps126;go_wp2;go_loopw [0,5] (fun bv u wr=>∃(u':Nat) (pre:List UInt8),u=.int .u64 u'/\UJ u'/\pre++varint u'=fU n/\OwnB wr base bv (b++pre)/\jh w wr (ς a0 b.length k0) bv) (fun _ u _=>(intOf u).toNat)
 case atStart=>exact⟨zig n,[],congrArg (Value.int .u64) HZ.o,hz,rfl,by simpa using HO.o,jh.refl _ _⟩
 case round=>
  obtain⟨u,pre,rfl,hu,hE,hown,hM⟩:=hrel;obtain⟨a1,k1,rfl⟩:=aY hown;have hpl:pre.length<=9:=by
   have h1:=congrArg List.length hE;have h2:=HL.o;have h3:=xA u;rw [List.length_append] at h1;omega
  have uI:=η hown;have LC:=η hM;have hsz:base<=wr.heap.size:=Nat.le_trans hbase hM.1.size;by_cases hlt:u<128
  ·have HE:=η (D_ hE hlt)
   have HV:=η (yK hlt rfl);clear hE hown hM;generalize (b++pre).length=nn at*;go_wp2_with (at_builtin;refine Lr rfl _ _ rfl rfl uI.o hsz rfl rfl [UInt8.ofNat u] ?e0 rfl ?e1 ?_)
   case e0=>exact congrArg (fun x=>[Value.int .u8 x]) (yK hlt (by go_num))
   case e1=>simp;omega
   intro v' w' ho hm;have ql:=η ho;have FU:=η (LC.o.trans hm);clear ho hm;go_wp2;go_ret;exact⟨_,rfl,by rw [<-HE.o];exact ql.o,FU.o⟩
  ·have he2:=D9 hE hlt
   obtain⟨z,hz⟩:∃z,z=UInt8.ofNat (u % 128+128):=⟨_,rfl⟩;rw [<-hz] at he2;have HE:=η he2;have HB:=η (VN hz);clear hE hown hM he2 hz;generalize (b++pre).length=nn at*;go_wp2_with (at_builtin;refine Lr rfl _ _ rfl rfl uI.o hsz rfl rfl [z] ?e0 rfl ?e1 ?_)
   case e0=>exact congrArg (fun x=>[Value.int .u8 x]) HB.o
   case e1=>simp;omega
   intro v' w' ho hm;have ql:=η ho;have FU:=η (LC.o.trans hm);clear ho hm;go_wp2;go_roundw
   case rel=>exact⟨u/128,pre++ [z],by go_num,hu.div,HE.o,ql.o,FU.o⟩
   case measure=>simp [intOf];omega
theorem UJ.wrap {u:Nat} (h:UJ u):IntKind.u64.wrap ((u:Int)/128)=(u:Int)/128:=by
 unfold UJ at h;rw [IntKind.wrap_u64];omega
theorem LD {u:Nat} {z:UInt8} (hz:z=UInt8.ofNat (u % 128+128)):(u:Int) % 128+128=(z.toNat:Int):=by
 rw [hz,mV];omega
theorem YO {n:Int} (h:n<0):-(n+1)*2+1=((zig n:Nat):Int):=by
 unfold zig;rw [if_pos h];omega
theorem YP {n:Int} (h:¬n<0):n*2=((zig n:Nat):Int):=by
 unfold zig;rw [if_neg h];omega
theorem mW {n:Int} (w:World) (hn:I64 n):
  Calls Tryz.prog 127 #[ι n] w fun e w'=>∃v',e=.returned v'/\OwnB w' w.heap.size v' (fU n)/\Grow w w':=by
 obtain⟨h0,h1⟩:=cZ hn;have HL:=η (iP h0 h1);have hz:=QN h0 h1;by_cases hneg:n<0
 ·have IS:=η (YO hneg)
  go_enter Tryz.func127,Tryz.ntmps127;go_wp2;go_loopw [3,4] (fun u bv wr=>∃(u':Nat) (pre:List UInt8),u=.int .u64 u'/\UJ u'/\pre++varint u'=fU n/\OwnB wr w.heap.size bv pre/\Grow w wr) (fun u _ _=>(intOf u).toNat)
  case atStart=>exact⟨zig n,[],congrArg (Value.int .u64) IS.o,hz,rfl,World.ownsRow_nil _ _ _ _,gY⟩
  case round=>
   obtain⟨u,pre,rfl,hu,hE,hown,hM⟩:=hrel;obtain⟨a1,k1,rfl⟩:=aY hown;have hpl:pre.length<=9:=by
    have h1:=congrArg List.length hE;have h2:=HL.o;have h3:=xA u;rw [List.length_append] at h1;omega
   have uI:=η hown;have LC:=η hM;have hsz:=hM.size;by_cases hlt:u<128
   ·have HE:=η (D_ hE hlt)
    clear hE hown hM;go_wp2_with (at_builtin;refine Lr rfl _ _ rfl rfl uI.o hsz rfl rfl [UInt8.ofNat u] ?e0 rfl ?e1 ?_)
    case e0=>exact congrArg (fun x=>[Value.int .u8 x]) (yK hlt (by go_num))
    case e1=>simp;omega
    intro v' w' ho hm;have ql:=η ho;have FU:=η (hm.all LC.o (fun k hk=>(uI.o.lt k hk).1));clear ho hm;go_wp2;go_ret;exact⟨_,rfl,by rw [<-HE.o];exact ql.o,FU.o⟩
   ·have he2:=D9 hE hlt
    obtain⟨z,hz⟩:∃z,z=UInt8.ofNat (u % 128+128):=⟨_,rfl⟩;rw [<-hz] at he2;have HE:=η he2;have HB:=η (LD hz);clear hE hown hM he2 hz;have hq:=hu.wrap;go_wp2_with (at_builtin;refine Lr rfl _ _ rfl rfl uI.o hsz rfl rfl [z] ?e0 rfl ?e1 ?_)
    case e0=>exact congrArg (fun x=>[Value.int .u8 x]) HB.o
    case e1=>simp;omega
    intro v' w' ho hm;have ql:=η ho;have FU:=η (hm.all LC.o (fun k hk=>(uI.o.lt k hk).1));clear ho hm;go_wp2;go_roundw
    case rel=>exact⟨u/128,pre++ [z],by go_num,hu.div,HE.o,ql.o,FU.o⟩
    case measure=>simp [intOf];omega
 ·have IS:=η (YP hneg)
  go_enter Tryz.func127,Tryz.ntmps127;go_wp2;go_loopw [3,4] (fun u bv wr=>∃(u':Nat) (pre:List UInt8),u=.int .u64 u'/\UJ u'/\pre++varint u'=fU n/\OwnB wr w.heap.size bv pre/\Grow w wr) (fun u _ _=>(intOf u).toNat)
  case atStart=>exact⟨zig n,[],congrArg (Value.int .u64) IS.o,hz,rfl,World.ownsRow_nil _ _ _ _,gY⟩
  case round=>
   obtain⟨u,pre,rfl,hu,hE,hown,hM⟩:=hrel;obtain⟨a1,k1,rfl⟩:=aY hown;have hpl:pre.length<=9:=by
    have h1:=congrArg List.length hE;have h2:=HL.o;have h3:=xA u;rw [List.length_append] at h1;omega
   have uI:=η hown;have LC:=η hM;have hsz:=hM.size;by_cases hlt:u<128
   ·have HE:=η (D_ hE hlt)
    clear hE hown hM;go_wp2_with (at_builtin;refine Lr rfl _ _ rfl rfl uI.o hsz rfl rfl [UInt8.ofNat u] ?e0 rfl ?e1 ?_)
    case e0=>exact congrArg (fun x=>[Value.int .u8 x]) (yK hlt (by go_num))
    case e1=>simp;omega
    intro v' w' ho hm;have ql:=η ho;have FU:=η (hm.all LC.o (fun k hk=>(uI.o.lt k hk).1));clear ho hm;go_wp2;go_ret;exact⟨_,rfl,by rw [<-HE.o];exact ql.o,FU.o⟩
   ·have he2:=D9 hE hlt
    obtain⟨z,hz⟩:∃z,z=UInt8.ofNat (u % 128+128):=⟨_,rfl⟩;rw [<-hz] at he2;have HE:=η he2;have HB:=η (LD hz);clear hE hown hM he2 hz;have hq:=hu.wrap;go_wp2_with (at_builtin;refine Lr rfl _ _ rfl rfl uI.o hsz rfl rfl [z] ?e0 rfl ?e1 ?_)
    case e0=>exact congrArg (fun x=>[Value.int .u8 x]) HB.o
    case e1=>simp;omega
    intro v' w' ho hm;have ql:=η ho;have FU:=η (hm.all LC.o (fun k hk=>(uI.o.lt k hk).1));clear ho hm;go_wp2;go_roundw
    case rel=>exact⟨u/128,pre++ [z],by go_num,hu.div,HE.o,ql.o,FU.o⟩
    case measure=>simp [intOf];omega
theorem QO {s x:Nat} {c:UInt8} (hs:s<65521) (hx:c.toNat=x) (hx2:x<256) {y:Int} (hy:y=Int.tmod ((s:Int)*263+x+1) 65521):y=(vU s c:Int):=by
 subst hx;unfold vU;rw [hy,Int.tmod_eq_emod_of_nonneg δ];omega
theorem VP {s x:Nat} {c:UInt8} (hs:s<65521) (hx:c.toNat=x) (hx2:x<256) {y:Int} (hy:y=Int.tmod (263*(s:Int)+x+1) 65521):y=(vU s c:Int):=
 QO hs hx hx2 (by rw [hy,Int.mul_comm])
theorem LG {v:Value} {b:List UInt8} (w:World) (hv:Sz w.cell? v b):
  Calls Tryz.prog 123 #[v] w fun e w'=>e=.returned (ι (qW b:Nat))/\Grow w w':=by
 obtain⟨a,cap,rfl,h1,h2,-,hel⟩:=hv;unfold maxLen at h2;go_enter Tryz.func123,Tryz.ntmps123;go_wp2;go_loopw [3,8] (fun s i wr=>∃k:Nat,k<=b.length/\i=ι k/\s=ι (oK 5 (b.take k):Nat)/\Grow w wr) (fun _ i _=>b.length - (intOf i).toNat)
 case atStart=>exact⟨0,δ,rfl,rfl,gY⟩
 case round=>
  obtain⟨k,hk',rfl,rfl,hb⟩:=hrel;by_cases hlt:k<b.length
  ·obtain⟨bb,o,rfl,c0⟩:=byteAt hel k hlt
   replace c0:=hb.sub _ _ c0;have HS:=η (Ls 5 b k hlt);have hs:=sW (b.take k) (s:=5) ε;have hx:=b[k].toNat_lt;clear hel;obtain⟨x,hxe⟩:∃x,x=b[k].toNat:=⟨_,rfl⟩;rw [<-hxe] at c0 hx;have HX:=η hxe;clear hxe;obtain⟨s,hse⟩:∃s,s=oK 5 (b.take k):=⟨_,rfl⟩;rw [<-hse] at hs;rw [<-hse];have HE:=η hse;clear hse;go_wp2_with (go_quiet (fail))
   go_roundw
   case rel=>exact⟨k+1,δ,by go_num,by
    rw [HS.o,<-HE.o];exact congrArg (Value.int .i64) (QO hs HX.o.symm hx (by go_num)),gY⟩
   case measure=>simp [intOf];omega
  ·have e:b.take k=b:=List.take_of_length_le δ
   rw [e];clear hel;go_wp2;go_ret;exact⟨rfl,hb⟩
theorem QS {v:Value} {b:List UInt8} (w:World) (hv:Sz w.cell? v b):
  Calls Tryz.prog 93 #[v] w fun e w'=>e=.returned (ι (qW b:Nat))/\Grow w w':=by
 obtain⟨a,cap,rfl,h1,h2,-,hel⟩:=hv;unfold maxLen at h2;go_enter Tryz.func93,Tryz.ntmps93;go_wp2;go_loopw [3,7] (fun s i wr=>∃k:Nat,k<=b.length/\i=ι k/\s=ι (oK 5 (b.take k):Nat)/\Grow w wr) (fun _ i _=>b.length - (intOf i).toNat)
 case atStart=>exact⟨0,δ,rfl,rfl,gY⟩
 case round=>
  obtain⟨k,hk',rfl,rfl,hb⟩:=hrel;by_cases hlt:k<b.length
  ·obtain⟨bb,o,rfl,c0⟩:=byteAt hel k hlt
   replace c0:=hb.sub _ _ c0;have HS:=η (Ls 5 b k hlt);have hs:=sW (b.take k) (s:=5) ε;have hx:=b[k].toNat_lt;clear hel;obtain⟨x,hxe⟩:∃x,x=b[k].toNat:=⟨_,rfl⟩;rw [<-hxe] at c0 hx;have HX:=η hxe;clear hxe;obtain⟨s,hse⟩:∃s,s=oK 5 (b.take k):=⟨_,rfl⟩;rw [<-hse] at hs;rw [<-hse];have HE:=η hse;clear hse;go_wp2_with (go_quiet (fail))
   go_roundw
   case rel=>exact⟨k+1,δ,by go_num,by
    rw [HS.o,<-HE.o];exact congrArg (Value.int .i64) (VP hs HX.o.symm hx (by first|rfl|go_num)),gY⟩
   case measure=>simp [intOf];omega
  ·have e:b.take k=b:=List.take_of_length_le δ
   rw [e];clear hel;go_wp2;go_ret;exact⟨rfl,hb⟩
theorem TL {v:Value} {l:List Int} {n:Int} (w:World) (hv:Ints w.cell? v l):
  Calls Tryz.prog 130 #[v,ι n] w fun e w'=>e=.returned (ι (idxOf (fun x=>n==x) l))/\Grow w w':=by
 obtain⟨a,cap,rfl,h1,h2,-,hel⟩:=hv;unfold maxLen at h2;go_enter Tryz.func130,Tryz.ntmps130;go_wp2;go_loopw [4,5,8] (fun _ _ i wr=>∃k:Nat,k<=l.length/\i=ι k/\Grow w wr/\(l.take k).findIdx? (fun x=>n==x)=none) (fun _ _ i _=>l.length - (intOf i).toNat)
 case atStart=>exact⟨0,δ,rfl,gY,σ⟩
 case round=>
  obtain⟨k,hk',rfl,hb,hE⟩:=hrel;by_cases hlt:k<l.length
  ·obtain⟨b,o,rfl,c0,-⟩:=Bd hel k hlt
   replace c0:=hb.sub _ _ c0;obtain⟨s1,s2⟩:=yg hlt hE;have S1:=η s1;have S2:=η s2;clear hel hE s1 s2;generalize l[k]=x at*;cases ht:(n==x)
   ·have S3:=η (S2.o ht)
    clear S1 S2;go_wp2;go_roundw
    case rel=>exact⟨k+1,δ,by go_num,gY,S3.o⟩
    case measure=>simp [intOf];omega
   ·have S3:=η (S1.o ht)
    clear S1 S2;go_wp2;go_ret;exact⟨bC S3.o.symm,gY⟩
  ·have HE:=η hE
   clear hel hE;go_wp2;go_ret;refine⟨bC ?_,hb⟩;have h9:=HE.o;rw [List.take_of_length_le δ] at h9;unfold idxOf;rw [h9]
theorem fC {v:Value} {l:List Int} {n:Int} (w:World) (hv:Ints w.cell? v l):
  Calls Tryz.prog 104 #[v,ι n] w fun e w'=>e=.returned (.bool (decide (n∈l)))/\Grow w w':=by
 have HI:=η (TL (n:=n) w hv);have HN:Hid (decide (0<=idxOf (fun x=>n==x) l)=decide (n∈l)):=by
  show _=_;rw [sG,Bool.eq_iff_iff,List.any_eq_true,decide_eq_true_eq];constructor
  ·rintro⟨x,hx,h⟩
   have:n=x:=by simpa using h
   rw [this];exact hx
  ·intro h;exact⟨n,h,σ⟩
 clear hv;generalize idxOf (fun x=>n==x) l=i at*;go_enter Tryz.func104,Tryz.ntmps104;go_wp2_with (go_at_call 130;refine HI.o.mono ?_;rintro e w' ⟨rfl,hb'⟩)
 go_ret;exact⟨bK HN.o,hb'⟩
theorem OH {v vp:Value} {h:Hs} {d:Int} {ps:List Pt} (w:World) (hv:Of Ty.hs w.cell? v h) (hp:m_ w.cell? vp ps) (hk:dw ps):
  Calls Tryz.prog 115 #[v,ι d,vp] w fun e w'=>e=.returned (ι (dU h d ps))/\Grow w w':=by
 have HO:=η hv;obtain⟨al,cl,ar,cr,ad,cd,rfl⟩:=hv.dF;have kk:=Of.iw hv;have sS:=η (fun(W:World) (hW:Grow w W)=>fC (n:=d) W (kk.2.2.mono hW.sub));have HIS:=η (fun(W:World) (hW:Grow w W) hb hc=>LH (B:=w.heap.size) (d:=d) W hb hc (kk.2.1.mono hW.sub));have YJ:=η (fun(W:World) (hW:Grow w W)=>Oo W (HO.o.mono hW.sub) (hp.mono hW.sub));have H5:=η (fun(W:World) (hW:Grow w W)=>SE (s0:=h.sums.a) (s1:=h.sums.b) (s2:=h.sums.c) (s3:=h.sums.d) W (hp.mono hW.sub) hk);have yw:=η (aF w (.cells #[ς al h.log.length cl,ι h.sums.a,ι h.sums.b,ι h.sums.c,ι h.sums.d,ς ar h.ready.length cr,ς ad h.done.length cd] 50));have jq:=η ((Grow.refl w).alloc (.cells #[ς al h.log.length cl,ι h.sums.a,ι h.sums.b,ι h.sums.c,ι h.sums.d,ς ar h.ready.length cr,ς ad h.done.length cd] 50));clear hv hp hk kk;by_cases hd:d∈h.done
 ·have HE:Hid (dU h d ps=10):=by show dU h d ps=10;unfold dU;rw [if_pos hd]
  have HD:=η (decide_eq_true hd);clear hd;go_enter Tryz.func115,Tryz.ntmps115;go_wp2_with fail
  refine(sS.o _ jq.o).mono ?_;rw [HD.o];rintro e w1 ⟨rfl,hb1⟩;go_wp2;go_ret;exact⟨bC HE.o.symm,jq.o.trans hb1⟩
 have HD:=η (decide_eq_false hd);by_cases hr:bM h.ready d=true
 ·have HE:Hid (dU h d ps=0):=by show dU h d ps=0;unfold dU;rw [if_neg hd,if_pos hr]
  have HR:=η hr;clear hd hr;go_enter Tryz.func115,Tryz.ntmps115;go_wp2_with fail
  refine(sS.o _ jq.o).mono ?_;rw [HD.o];rintro e w1 ⟨rfl,hb1⟩;have HB1:=η hb1;clear hb1;have R1:=η (aj yw.o HB1.o);go_wp2_with fail
  refine(HIS.o w1 (jq.o.trans HB1.o) (γ R1.o) (aT R1.o).2.2.2.2.2.1).mono ?_;rw [HR.o];rintro e w2 ⟨rfl,hb2⟩;go_wp2;go_ret;exact⟨bC HE.o.symm,(jq.o.trans HB1.o).trans hb2⟩
 have HR:Hid (bM h.ready d=false):=by show _=_;simpa using hr
 cases hf:qG h.ready ps with
 |false=>
  have HE:Hid (dU h d ps=12):=by show dU h d ps=12;unfold dU;rw [if_neg hd,if_neg hr,if_pos hf]
  clear hd hr;go_enter Tryz.func115,Tryz.ntmps115;go_wp2_with fail
  refine(sS.o _ jq.o).mono ?_;rw [HD.o];rintro e w1 ⟨rfl,hb1⟩;have HB1:=η hb1;clear hb1;have R1:=η (aj yw.o HB1.o);go_wp2_with fail
  refine(HIS.o w1 (jq.o.trans HB1.o) (γ R1.o) (aT R1.o).2.2.2.2.2.1).mono ?_;rw [HR.o];rintro e w2 ⟨rfl,hb2⟩;have HB2:=η ((jq.o.trans HB1.o).trans hb2);obtain⟨s0,s1,s2,s3,s4,s5,s6⟩:=aT (aj R1.o hb2);clear hb2;go_wp2_with fail
  refine(YJ.o w2 HB2.o).mono ?_;rw [hf];rintro e w3 ⟨rfl,hb3⟩;go_wp2;go_ret;exact⟨bC HE.o.symm,HB2.o.trans hb3⟩
 |true=>
  have HE:Hid (dU h d ps=jy h.sums.get ps):=by show dU h d ps=_;unfold dU;rw [if_neg hd,if_neg hr,if_neg (by rw [hf];simp)]
  clear hd hr;go_enter Tryz.func115,Tryz.ntmps115;go_wp2_with fail
  refine(sS.o _ jq.o).mono ?_;rw [HD.o];rintro e w1 ⟨rfl,hb1⟩;have HB1:=η hb1;clear hb1;have R1:=η (aj yw.o HB1.o);go_wp2_with fail
  refine(HIS.o w1 (jq.o.trans HB1.o) (γ R1.o) (aT R1.o).2.2.2.2.2.1).mono ?_;rw [HR.o];rintro e w2 ⟨rfl,hb2⟩;have HB2:=η ((jq.o.trans HB1.o).trans hb2);have R2:=η (aj R1.o hb2);obtain⟨s0,s1,s2,s3,s4,s5,s6⟩:=aT R2.o;clear hb2;go_wp2_with fail
  refine(YJ.o w2 HB2.o).mono ?_;rw [hf];rintro e w3 ⟨rfl,hb3⟩;have HB3:=η (HB2.o.trans hb3);clear s0 s1 s2 s3 s4 s5 s6;obtain⟨s0,s1,s2,s3,s4,s5,s6⟩:=aT (aj R2.o hb3);clear hb3;go_wp2_with fail
  refine(H5.o w3 HB3.o).mono ?_;rintro e w4 ⟨rfl,hb4⟩;go_wp2;go_ret;exact⟨bC (by rw [HE.o];rfl),HB3.o.trans hb4⟩
theorem GK (l:List Int):l.flatMap dB=l.map (Value.int .i64):=by
 induction l with
 |nil=>rfl
 |cons x l ih=>rw [List.flatMap_cons,ih];rfl
theorem VR {w:World} {base:Nat} {v:Value} {l:List Int} (h:w.ownsRow base 3 1 v l.length (l.flatMap dB)) (hne:l≠ []) (hs:l.length<4611686018427387904):
  ∃g,v.ownBlock=some g/\base<=g/\Calls Tryz.prog 105 #[v] w fun e w'=>e=.returned (.tuple #[])/\w'.ownsRow base 3 1 v (l.mergeSort fun x y=>decide (x<=y)).length ((l.mergeSort fun x y=>decide (x<=y)).flatMap dB)/\w.grownBy w' (some g):=by
 obtain⟨hl,⟨rfl,hn⟩|⟨g,cap,cur,rfl,hg,hrow,hnc,hcm,hcs,htake⟩⟩:=h
 ·exact absurd (List.eq_nil_of_length_eq_zero hn) hne
 ·have ht:cur.toList.take l.length=l.map (Value.int .i64):=by rw [<-GK,<-htake,Nat.mul_one]
  refine⟨g,rfl,hg,(Tryz.slices_Sort_int g 0 cap l w (holds_of_blockI hrow ht) (γ hrow) hs).mono fun e w' ⟨he,n,os,hw⟩=>⟨he,?_,?_⟩⟩
  ·have e:(l.mergeSort fun x y=>decide (x<=y)).length=l.length:=List.length_mergeSort _
   rw [hw,GK,e];exact ownsRow_sortedI e hg hrow hnc hcm hcs
  ·rw [hw]
   exact grownBy_sortedI _
theorem Ea:∀(l:List Pt) (had:List Int) (p:Pt),gB had (l++ [p])=if p.h∈gB had l then gB had l else gB had l++ [p.h]
 | [],had,p=>rfl
 |q::l,had,p=>by rw [List.cons_append,gB,gB,Ea l]
theorem VT {l:List Pt} (h:∀p∈l,I64 p.h):∀x∈gB [] l,I64 x:=fun x hx=>by
 rcases vS.1 hx with h0|⟨p,hp,rfl⟩
 ·simp at h0
 ·exact h p hp
theorem VU {l:List Pt} (h:l≠ []):gB [] l≠ []:=by
 intro e;cases l with
 |nil=>exact h rfl
 |cons p l=>
  have:p.h∈gB [] (p::l):=vS.2 (.inr ⟨p,List.mem_cons_self,rfl⟩);rw [e] at this;simp at this
theorem jB {v:Value} {l:List Pt} (w:World) (hv:m_ w.cell? v l) (hm:l.length*24<=140737488355328) (hne:l≠ []) (hp:∀p∈l,0<=p.h/\p.h<3):
  Calls Tryz.prog 103 #[v] w fun e w'=>∃v',e=.returned v'/\w'.ownsRow w.heap.size 3 1 v' (aX l).length ((aX l).flatMap dB)/\Grow w w':=by
 have hok:=m_.ok hv;have qp:=η (fun k=>VT (l:=l.take k) fun p hp=>(hok p (List.mem_of_mem_take hp)).1);have og:=η (VU hne);have eL:=η (KW hp);have HM:=η hm;obtain⟨a,cap,rfl,h1,h2,-,hel⟩:=hv;unfold maxLen at h2;clear hok hp hne hm;go_enter Tryz.func103,Tryz.ntmps103;go_wp2;go_loopw [3,8] (fun v i wr=>∃k:Nat,k<=l.length/\i=ι k/\Grow w wr/\wr.ownsRow w.heap.size 3 1 v (gB [] (l.take k)).length ((gB [] (l.take k)).flatMap dB)) (fun _ i _=>l.length - (intOf i).toNat)
 case atStart=>exact⟨0,δ,rfl,Grow.refl _,World.ownsRow_nil _ _ _ _⟩
 case round=>
  obtain⟨k,hk',rfl,hb,hown⟩:=hrel;obtain⟨a1,c1,rfl⟩:=aY hown;by_cases hlt:k<l.length
  ·obtain⟨b,o,rfl,c0,d1,d2,-,-,-⟩:=m_.at_ hel k hlt
   replace c0:=hb.sub _ _ c0;replace d1:=hb.sub _ _ d1;replace d2:=hb.sub _ _ d2;have hD:gB [] (l.take (k+1))=if l[k].h∈gB [] (l.take k) then gB [] (l.take k) else gB [] (l.take k)++ [l[k].h]:=by
    rw [List.take_succ_eq_append_getElem hlt,Ea]
   have HD:=η hD;have hle:(gB [] (l.take k)).length<=k:=by have:=zZ (l.take k) [];simp at this;omega
   have sS:=η (fun(W:World) (hW:Grow wr W)=>fC (n:=l[k].h) W ((Ints.zy hown (qp.o k)).mono hW.sub));have HOW:=η hown;have HB:=η hb;clear hel hown hD hb;generalize gB [] (l.take k)=acc at*;generalize l[k]=p at*;obtain⟨ph,pk,pn⟩:=p;simp only at c0 d1 d2;go_wp2_with fail
   refine(sS.o _ ((Grow.refl wr).alloc _)).mono ?_;by_cases hin:ph∈acc
   ·rw [decide_eq_true hin]
    rintro e w3 ⟨rfl,hb3⟩;have HB3:=η ((HB.o.alloc _).trans hb3);have nC:=η (g_ HOW.o (((Grow.refl wr).alloc _).trans hb3));have HI:=η hin;clear hb3 hin;go_wp2;go_roundw
    case rel=>exact⟨k+1,δ,by go_num,HB3.o,by rw [HD.o,if_pos HI.o];exact nC.o⟩
    case measure=>simp [intOf];omega
   ·rw [decide_eq_false hin]
    rintro e w3 ⟨rfl,hb3⟩;have R3:=η (aj (aF wr (.cells #[ι ph,ι pk,ι pn] 111)) hb3);have HB3:=η ((HB.o.alloc (.cells #[ι ph,ι pk,ι pn] 111)).trans hb3);have nC:=η (g_ HOW.o (((Grow.refl wr).alloc _).trans hb3));have HI:=η hin;clear hb3 hin;obtain⟨q0,q1,q2⟩:=cells3 R3.o;have zq:wr.heap.size<w3:=(γ R3.o);go_wp2_with (at_builtin;refine app1 iM rfl _ _ rfl HB3.o rfl nC.o rfl σ rfl (by simp [Value.oneCell']) (τ HM.o) ε ?_;intro v' w' hown' hb' _)
    go_roundw
    case rel=>exact⟨k+1,δ,by go_num,hb',by rw [HD.o,if_neg HI.o];simpa [dB] using hown'⟩
    case measure=>simp [intOf];omega
  ·have hk2:k=l.length:=by omega
   rw [List.take_of_length_le δ] at hown;have hln:(gB [] l).length<=l.length:=by have:=zZ l [];simp at this;omega
   obtain⟨g,hg1,hg2,hc⟩:=VR hown og.o (τ HM.o);rw [eL.o] at hc;have HC:=η hc;have HB:=η hb;clear hel hc hown hb;go_wp2_with fail
   refine HC.o.mono ?_;rintro e w3 ⟨rfl,hown3,hg3⟩;have nC:=η hown3;have oq:Hid (Grow w w3):=η (HB.o.grown hg3 fun k hk=>by obtain rfl:=Option.some.inj hk;exact hg2);clear hown3 hg3;go_wp2;go_ret;exact⟨_,rfl,nC.o,oq.o⟩
end Go.Proofs.YtocnmkefmgmkbaaGreat
namespace Go.Proofs.YtocnmkefmgmkbaaGreat
def dK (p:Pt):List UInt8:=fU p.k++fU p.n
def dX (m:Ms):List UInt8:=UInt8.ofNat m.kind.toNat::(fU m.deed++(fU m.house++(fU m.parts.length++m.parts.flatMap dK)))
def nK (b:List UInt8):List UInt8:=b++ [UInt8.ofNat (qW b/256),UInt8.ofNat (qW b)]
def aS (m:Ms):List UInt8:=nK (dX m)
def ms0:Ms:=⟨0,0,0,[]⟩
def ji:Nat->List UInt8->Sum (List Int×List UInt8) Int
 |0,b=>.inl ([],b)
 |n+1,b=>if(dP b).2.2=0 then(match ji n (b.drop (dP b).2.1.toNat) with
   | .inl (xs,r)=>.inl ((dP b).1::xs,r)
   | .inr e=>.inr e) else .inr (dP b).2.2
def pairs (h:Int):List Int->List Pt
 |k::n::l=>⟨h,k,n⟩::pairs h l
 |_=>[]
def nums (l:List Pt):List Int:=l.flatMap fun p=>[p.k,p.n]
def readBody (kind:Int) (l:List UInt8):Ms×Int:=
 match ji 3 l with
 | .inr e=>(ms0,e)
 | .inl (xs,r)=>
  if xs.getD 2 0<0∨4<xs.getD 2 0 then(ms0,5) else
  match ji (2*(xs.getD 2 0).toNat) r with
  | .inr e=>(ms0,e)
  | .inl (ys,r')=>if r'≠ [] then(ms0,2) else
   if aQ ⟨kind,xs.getD 0 0,xs.getD 1 0,pairs (xs.getD 1 0) ys⟩=0 then(⟨kind,xs.getD 0 0,xs.getD 1 0,pairs (xs.getD 1 0) ys⟩,0)
   else(ms0,aQ ⟨kind,xs.getD 0 0,xs.getD 1 0,pairs (xs.getD 1 0) ys⟩)
def tZ (b:List UInt8):Bool:=decide (qW (b.take (b.length - 2))=256*(b.getD (b.length - 2) 0).toNat+(b.getD (b.length - 1) 0).toNat)
def readB (b:List UInt8):Ms×Int:=
 if b.length<3 then(ms0,8) else if tZ b=true then readBody ((b.getD 0 0).toNat:Nat) ((b.take (b.length - 2)).drop 1) else(ms0,7)
theorem Ad:∀(xs:List Int) (r:List UInt8),(∀x∈xs,zig x<128^6)->ji xs.length (xs.flatMap fU++r)=.inl (xs,r)
 | [],r,_=>rfl
 |x::xs,r,h=>by
  have h1:=YM (n:=x) (xs.flatMap fU++r) (h x List.mem_cons_self);rw [List.flatMap_cons,List.append_assoc,List.length_cons,ji,h1];simp only [if_true,Int.toNat_natCast,List.drop_left];rw [Ad xs r fun y hy=>h y (List.mem_cons_of_mem _ hy)]
theorem Eb:∀l:List Pt,l.flatMap dK=(nums l).flatMap fU
 | []=>rfl
 |p::l=>by
  show dK p++l.flatMap dK=([p.k,p.n]++nums l).flatMap fU;rw [Eb l,List.flatMap_append];simp [dK]
theorem LJ:∀l:List Pt,(nums l).length=2*l.length
 | []=>rfl
 |p::l=>by
  show([p.k,p.n]++nums l).length=_;rw [List.length_append,LJ l];simp;omega
theorem Ec {h:Int}:∀{l:List Pt},(∀p∈l,p.h=h)->pairs h (nums l)=l
 | [],_=>rfl
 |p::l,hp=>by
  show(⟨h,p.k,p.n⟩:Pt)::pairs h (nums l)=_;rw [Ec fun q hq=>hp q (List.mem_cons_of_mem _ hq),<-hp p List.mem_cons_self]
theorem xB {h:Int}:∀(n:Nat) {ys:List Int},ys.length=2*n->nums (pairs h ys)=ys/\(pairs h ys).length=n
 |0,ys,hl=>by
  obtain rfl:ys=[]:=List.eq_nil_of_length_eq_zero δ;exact⟨rfl,rfl⟩
 |n+1,ys,hl=>by
  match ys,hl with
  | [],hl=>simp at hl
  | [x],hl=>simp at hl;omega
  |k::x::ys,hl=>
   obtain⟨e1,e2⟩:=xB (h:=h) n (ys:=ys) (by simp at hl;omega);refine⟨?_,?_⟩
   ·show [k,x]++nums (pairs h ys)=_
    rw [e1];rfl
   ·show(pairs h ys).length+1=_
    rw [e2]
theorem VW {n:Int} (h1:-2199023255552<n) (h2:n<2199023255552):zig n<128^6:=by
 have:(128:Nat)^6=4398046511104:=by decide
 rw [this];unfold zig;split<;>omega
theorem jg.len {m:Ms} (h:jg m):m.parts.length<=4:=by
 by_cases hk:m.kind=1
 ·exact(eP (h.parts hk).1).2.1
 ·rw [h.none hk];simp
theorem jg.pts {m:Ms} (h:jg m):∀p∈m.parts,p.h=m.house/\0<=p.k/\p.k<4/\p.n<=1048576/\-1048576<=p.n:=by
 by_cases hk:m.kind=1
 ·intro p hp
  have:=(eP (h.parts hk).1).2.2.1 p hp;exact⟨(h.parts hk).2 p hp,this.2.2⟩
 ·rw [h.none hk];simp
theorem TM (m:Ms):dX m=UInt8.ofNat m.kind.toNat::([m.deed,m.house,(m.parts.length:Int)].flatMap fU++(nums m.parts).flatMap fU):=by
 unfold dX;rw [Eb];simp
theorem TN {m:Ms} (h:jg m) (hw:aQ m=0):readBody m.kind ([m.deed,m.house,(m.parts.length:Int)].flatMap fU++(nums m.parts).flatMap fU)=(m,0):=by
 have hl:=h.len;have h1:=Ad [m.deed,m.house,(m.parts.length:Int)] ((nums m.parts).flatMap fU) (by
  intro x hx;have h1:=h.deed;have h2:=h.house;simp only [List.mem_cons,List.not_mem_nil,or_false] at hx;rcases hx with rfl|rfl|rfl<;>exact VW δ δ)
 have h2:=Ad (nums m.parts) [] (by
  intro x hx;obtain⟨p,hp,hx⟩:=List.mem_flatMap.1 hx;have:=h.pts p hp;simp only [List.mem_cons,List.not_mem_nil,or_false] at hx;rcases hx with rfl|rfl<;>exact VW δ δ)
 rw [LJ,List.append_nil] at h2;unfold readBody;rw [show(3:Nat)=[m.deed,m.house,(m.parts.length:Int)].length from rfl,h1];simp only [List.getD_cons_succ,List.getD_cons_zero];rw [if_neg δ,Int.toNat_natCast,h2];simp only [ne_eq,not_true,if_false];rw [Ec fun p hp=>(h.pts p hp).1];show(if aQ m=0 then(m,(0:Int)) else _)=_;rw [if_pos hw]
theorem Ed (b:List UInt8):(nK b).length=b.length+2:=by simp [nK]
theorem YQ (b:List UInt8):tZ (nK b)=true/\(nK b).take ((nK b).length - 2)=b:=by
 have hl:=Ed b;have ht:(nK b).take ((nK b).length - 2)=b:=by rw [hl];simp [nK]
 refine⟨?_,ht⟩;have hs:=yJ b;have e1:(nK b).getD ((nK b).length - 2) 0=UInt8.ofNat (qW b/256):=by rw [hl];simp [nK]
 have e2:(nK b).getD ((nK b).length - 1) 0=UInt8.ofNat (qW b):=by
  rw [hl,show b.length+2 - 1=b.length+1 by omega];simp [nK,List.getD_eq_getElem?_getD]
 unfold tZ;rw [ht,e1,e2,decide_eq_true_eq,lH δ,UInt8.toNat_ofNat'];omega
theorem xC {m:Ms} (hw:aQ m=0):readB (aS m)=(m,0):=by
 have h:=vP.1 hw;obtain⟨h1,h2⟩:=YQ (dX m);unfold readB aS;have hp:0<(dX m).length:=by unfold dX;simp
 rw [if_neg (by rw [Ed];omega),if_pos h1,h2,TM];rw [List.drop_succ_cons,List.drop_zero];have e:((nK (UInt8.ofNat m.kind.toNat::([m.deed,m.house,(m.parts.length:Int)].flatMap fU++(nums m.parts).flatMap fU))).getD 0 0)=UInt8.ofNat m.kind.toNat:=by
  unfold nK;rw [List.cons_append];rfl
 have hk:=h.kind;rw [e,lH δ,show((m.kind.toNat:Nat):Int)=m.kind by omega];exact TN h hw
end Go.Proofs.YtocnmkefmgmkbaaGreat
namespace Go.Proofs.YtocnmkefmgmkbaaGreat
open Go.RowKit
theorem OwnB.grow {w w':World} {base:Nat} {v:Value} {b:List UInt8} (h:OwnB w base v b) (hg:Grow w w'):OwnB w' base v b:=g_ h hg
theorem OwnB.GT {w:World} {base:Nat} {v:Value} {b:List UInt8} (h:OwnB w base v b):Sz w.cell? v b:=Sz.zy h
theorem jh.row {w w':World} {v v':Value} {B:Nat} {o:Obj} (h:jh w w' v v') (hr:w.heap[B]? =some o) (hne:∀k,v.ownBlock=some k->B≠k):w'.heap[B]? =some o:=
 aH hr h.1 (fun e=>hne B e.symm rfl)
theorem GU:∀{xs:List Int},(∀x∈xs,I64 x)->(xs.flatMap fU).length<=10*xs.length
 | [],_=>by simp
 |x::xs,h=>by
  obtain⟨h0,h1⟩:=cZ (h x List.mem_cons_self);have h2:=iP h0 h1;have h3:=GU (xs:=xs) fun y hy=>h y (List.mem_cons_of_mem _ hy);rw [List.flatMap_cons,List.length_append,List.length_cons];omega
theorem Ae {α:Type} (f:α->List UInt8) {l:List α} {k:Nat} (h:k<l.length):(l.take (k+1)).flatMap f=(l.take k).flatMap f++f l[k]:=by
 rw [List.take_succ_eq_append_getElem h,List.flatMap_append];simp
theorem iW {n:Int} (h1:-9223372036854775808<=n) (h2:n<=9223372036854775807):I64 n:=by
 unfold I64;simp [Lit.wf,IntKind.min,IntKind.max,IntKind.signed,IntKind.bits];omega
theorem G_ {k:Int} (h:0<=k/\k<256):k=((UInt8.ofNat k.toNat).toNat:Int):=by
 rw [UInt8.toNat_ofNat'];omega
theorem FW {p:Pt} (h1:I64 p.k) (h2:I64 p.n):(dK p).length<=20:=by
 unfold dK;rw [List.length_append];have a:=iP (cZ h1).1 (cZ h1).2;have b:=iP (cZ h2).1 (cZ h2).2;omega
theorem lV:∀{l:List Pt},wH l->(l.flatMap dK).length<=20*l.length
 | [],_=>by simp
 |p::l,h=>by
  have h2:=FW (h p List.mem_cons_self).2.1 (h p List.mem_cons_self).2.2;have h3:=lV (l:=l) fun q hq=>h q (List.mem_cons_of_mem _ hq);rw [List.flatMap_cons,List.length_append,List.length_cons];omega
theorem two_bytes {x y:Int} {z1 z2:UInt8} (h1:x=(z1.toNat:Int)) (h2:y=(z2.toNat:Int)):[Value.int .u8 x,Value.int .u8 y]=[z1,z2].flatMap fA:=by
 rw [h1,h2];rfl
theorem OI {v:Value} {m:Ms} (w:World) (hv:Of Ty.ms w.cell? v m) (hk:0<=m.kind/\m.kind<256) (hl:m.parts.length<=4):
  Calls Tryz.prog 89 #[v] w fun e w'=>∃v',e=.returned v'/\OwnB w' w.heap.size v' (aS m)/\Grow w w':=by
 obtain⟨ap,cp,rfl⟩:=hv.fQ;obtain⟨hp,ik,id',ih⟩:=hv.iG;have hok:=m_.ok hp;have HKB:=η (G_ hk);have HI:Hid (∀x∈ [m.deed,m.house,(m.parts.length:Int)],I64 x):=fun x hx=>by
  simp only [List.mem_cons,List.not_mem_nil,or_false] at hx;rcases hx with rfl|rfl|rfl
  ·exact id'
  ·exact ih
  ·exact iW δ δ
 have oE:=η (fun k=>GU (xs:=[m.deed,m.house,(m.parts.length:Int)].take k) fun x hx=>HI.o x (List.mem_of_mem_take hx));have KH:=η (fun k=>lV (l:=m.parts.take k) fun p hp=>hok p (List.mem_of_mem_take hp));have HB0:Hid (OwnB (((w.alloc (.cells #[ι m.kind,ι m.deed,ι m.house,ς ap m.parts.length cp] 85)).alloc (.cells #[.int .u8 m.kind] 5)).alloc (.cells #[ι m.deed,ι m.house,ι m.parts.length] 3)) w.heap.size (ς (some ⟨w.heap.size+1,0,none⟩) 1 1) [UInt8.ofNat m.kind.toNat]):=η (by
  have h:=World.ownsRow_lit (base:=w.heap.size) (e:=5) (size:=1) (w.alloc (.cells #[ι m.kind,ι m.deed,ι m.house,ς ap m.parts.length cp] 85)) #[.int .u8 m.kind] 1 σ ε rfl;have e:(#[.int .u8 m.kind]:Array Value).toList=[UInt8.ofNat m.kind.toNat].flatMap fA:=by
   show [Value.int .u8 m.kind]=[Value.int .u8 _];rw [<-HKB.o]
  rw [e] at h;have h2:=OwnB.grow (b:=[UInt8.ofNat m.kind.toNat]) h (w':=(((w.alloc (.cells #[ι m.kind,ι m.deed,ι m.house,ς ap m.parts.length cp] 85)).alloc (.cells #[.int .u8 m.kind] 5)).alloc (.cells #[ι m.deed,ι m.house,ι m.parts.length] 3))) ((Grow.refl _).alloc _);simpa using h2)
 have HR0:Hid ((((w.alloc (.cells #[ι m.kind,ι m.deed,ι m.house,ς ap m.parts.length cp] 85)).alloc (.cells #[.int .u8 m.kind] 5)).alloc (.cells #[ι m.deed,ι m.house,ι m.parts.length] 3)).heap[w.heap.size]? =some (.cells #[ι m.kind,ι m.deed,ι m.house,ς ap m.parts.length cp] 85 (0,0))):=η (aB (aB (aF _ _) _) _);have HR2:Hid ((((w.alloc (.cells #[ι m.kind,ι m.deed,ι m.house,ς ap m.parts.length cp] 85)).alloc (.cells #[.int .u8 m.kind] 5)).alloc (.cells #[ι m.deed,ι m.house,ι m.parts.length] 3)).heap[w.heap.size+1+1]? =some (.cells #[ι m.deed,ι m.house,ι m.parts.length] 3 (0,0))):=η (by simpa using aF ((w.alloc (.cells #[ι m.kind,ι m.deed,ι m.house,ς ap m.parts.length cp] 85)).alloc (.cells #[.int .u8 m.kind] 5)) (.cells #[ι m.deed,ι m.house,ι m.parts.length] 3));have oq:Hid (Grow w (((w.alloc (.cells #[ι m.kind,ι m.deed,ι m.house,ς ap m.parts.length cp] 85)).alloc (.cells #[.int .u8 m.kind] 5)).alloc (.cells #[ι m.deed,ι m.house,ι m.parts.length] 3))):=η ((((Grow.refl w).alloc _).alloc _).alloc _);have Yb:Hid (w.heap.size+3<=((((w.alloc (.cells #[ι m.kind,ι m.deed,ι m.house,ς ap m.parts.length cp] 85)).alloc (.cells #[.int .u8 m.kind] 5)).alloc (.cells #[ι m.deed,ι m.house,ι m.parts.length] 3))).heap.size):=η σ;have lI:=η hp;have HM:Hid (UInt8.ofNat m.kind.toNat::(([m.deed,m.house,(m.parts.length:Int)].flatMap fU)++m.parts.flatMap dK)=dX m):=η (by unfold dX;simp);obtain⟨hk0,hk1⟩:=hk;clear hv ik id' ih hok;go_enter Tryz.func89,Tryz.ntmps89;go_wp2;obtain⟨w3,hw3⟩:∃x:World,x=(((w.alloc (.cells #[ι m.kind,ι m.deed,ι m.house,ς ap m.parts.length cp] 85)).alloc (.cells #[.int .u8 m.kind] 5)).alloc (.cells #[ι m.deed,ι m.house,ι m.parts.length] 3)):=⟨_,rfl⟩;rw [<-hw3] at HB0 HR0 HR2 oq Yb ⊢;clear hw3;go_loopw [3,22] (fun bv i wr=>∃k:Nat,k<=3/\i=ι k/\OwnB wr w.heap.size bv (UInt8.ofNat m.kind.toNat::([m.deed,m.house,(m.parts.length:Int)].take k).flatMap fU)/\jh w3 wr (ς (some ⟨w.heap.size+1,0,none⟩) 1 1) bv) (fun _ i _=>3 - (intOf i).toNat)
 case atStart=>exact⟨0,δ,rfl,HB0.o,jh.refl _ _⟩
 case round=>
  obtain⟨k,hk',rfl,hown,hM⟩:=hrel;obtain⟨a1,k1,rfl⟩:=aY hown;have HO:=η hown;have IT:=η hM;by_cases hlt:k<3
  ·obtain⟨x,hx⟩:∃x,[m.deed,m.house,(m.parts.length:Int)][k]? =some x:=⟨_,List.getElem?_eq_getElem hlt⟩
   have HX:=η (HI.o x (List.mem_of_getElem? hx));have HN:=η (show UInt8.ofNat m.kind.toNat::([m.deed,m.house,(m.parts.length:Int)].take (k+1)).flatMap fU=(UInt8.ofNat m.kind.toNat::([m.deed,m.house,(m.parts.length:Int)].take k).flatMap fU)++fU x by
    rw [Ae fU hlt,List.cons_append];congr 2;rw [List.getElem?_eq_getElem hlt] at hx;exact congrArg fU (Option.some.inj hx))
   have r2:=hM.row HR2.o (fun q hq=>by
    obtain rfl:w.heap.size+1=q:=by simpa [Value.ownBlock] using hq
    omega)
   have hc:wr.cell? ⟨w.heap.size+1+1,k,none⟩=some (ι x):=by
    simp only [World.cell?,r2];match k,hlt,hx with
    |0,_,hx=>simp at hx ⊢;exact hx
    |1,_,hx=>simp at hx ⊢;exact hx
    |2,_,hx=>simp at hx ⊢;exact hx
   have hnl:=oE.o k;have hlk:([m.deed,m.house,(m.parts.length:Int)].take k).length<=3:=by rw [List.length_take];simp;omega
   have hlb:(UInt8.ofNat m.kind.toNat::([m.deed,m.house,(m.parts.length:Int)].take k).flatMap fU).length+10<=140737488355328:=by rw [List.length_cons];omega
   have Oi:=η hlb;clear hown hM hx r2 hnl hlk hlb;generalize UInt8.ofNat m.kind.toNat::([m.deed,m.house,(m.parts.length:Int)].take k).flatMap fU=pre at*;go_wp2_with fail
   refine(uT (base:=w.heap.size) wr HO.o (by have:=IT.o.1.size;have:=Yb.o;omega) HX.o Oi.o).mono ?_;rintro e w5 ⟨v5,rfl,kJ,hm5⟩;have l9:=η kJ;have HM5:=η (IT.o.trans hm5);clear kJ hm5;go_wp2;go_roundw
   case rel=>exact⟨k+1,δ,by go_num,by rw [HN.o];exact l9.o,HM5.o⟩
   case measure=>simp [intOf];omega
  ·obtain rfl:k=3:=by omega
   rw [show((3:Nat):Int)=3 from rfl];have hb:Grow w wr:=hM.all oq.o (fun q hq=>by
    obtain rfl:w.heap.size+1=q:=by simpa [Value.ownBlock] using hq
    omega)
   have r0:=hM.row HR0.o (fun q hq=>by
    obtain rfl:w.heap.size+1=q:=by simpa [Value.ownBlock] using hq
    omega)
   obtain⟨wo,rfl⟩:∃x:World,x=wr:=⟨_,rfl⟩;obtain⟨c0,c1,c2,c3⟩:=cells4 r0;have z0:w.heap.size<wo:=(γ r0);have oP:=η hb;have hnl:=oE.o 3;have BD:Hid ((UInt8.ofNat m.kind.toNat::([m.deed,m.house,(m.parts.length:Int)].take 3).flatMap fU).length<=31):=η (by rw [List.length_cons];have:([m.deed,m.house,(m.parts.length:Int)].take 3).length=3:=rfl;omega);have FU:Hid ((UInt8.ofNat m.kind.toNat::([m.deed,m.house,(m.parts.length:Int)].take 3).flatMap fU)++m.parts.flatMap dK=dX m):=η (by rw [<-HM.o];rfl);obtain⟨SV,cp',he,h1,h2,-,hel⟩:=lI.o;obtain⟨rfl,rfl⟩:ap=SV/\cp=cp':=by simpa using he
   unfold maxLen at h2;clear hown hM r0 hb hnl IT he HM;generalize UInt8.ofNat m.kind.toNat::([m.deed,m.house,(m.parts.length:Int)].take 3).flatMap fU=b0 at*;go_wp2;go_loopw [3,33] (fun bv i wr=>∃k:Nat,k<=m.parts.length/\i=ι k/\Grow w wr/\OwnB wr w.heap.size bv (b0++(m.parts.take k).flatMap dK)) (fun _ i _=>m.parts.length - (intOf i).toNat)
   case atStart=>exact⟨0,δ,rfl,oP.o,by simpa using HO.o⟩
   case round=>
    obtain⟨k,hk',rfl,hb,hown⟩:=hrel;obtain⟨a2,k2,rfl⟩:=aY hown;by_cases hlt:k<m.parts.length
    ·obtain⟨b,o,rfl,d0,d1,d2,-,i1,i2⟩:=m_.at_ hel k hlt
     replace d0:=hb.sub _ _ d0;replace d1:=hb.sub _ _ d1;replace d2:=hb.sub _ _ d2;have HN:=η (show b0++(m.parts.take (k+1)).flatMap dK=(b0++(m.parts.take k).flatMap dK++fU m.parts[k].k)++fU m.parts[k].n by
      rw [Ae dK hlt];simp [dK])
     have hlk:(m.parts.take k).length<=4:=by rw [List.length_take];omega
     have hln:(b0++(m.parts.take k).flatMap dK).length<=131:=by
      have:=KH.o k;have:=BD.o;rw [List.length_append];omega
     have wP:=η hln;have HI1:=η i1;have HI2:=η i2;have HOW:=η hown;have HB:=η hb;clear hel i1 i2 hlk hln hown hb c0 c1 c2 c3;generalize b0++(m.parts.take k).flatMap dK=pre at*;generalize m.parts[k]=p at*;obtain⟨ph,pk,pn⟩:=p;simp only at d0 d1 d2 HI1 HI2 HN;have RP:=η (aF wr (.cells #[ι ph,ι pk,ι pn] 111));have oF:=η (HOW.o.grow ((Grow.refl wr).alloc (.cells #[ι ph,ι pk,ι pn] 111)));have oR:Hid (Grow w (wr.alloc (.cells #[ι ph,ι pk,ι pn] 111))):=η (HB.o.alloc _);have sE:Hid (∀q,(Value.slice a2 pre.length k2).ownBlock=some q->q<wr.heap.size):=η (fun q hq=>(HOW.o.lt q hq).2);go_wp2;obtain⟨wa,cO⟩:∃x:World,x=wr.alloc (.cells #[ι ph,ι pk,ι pn] 111):=⟨_,rfl⟩;rw [<-cO] at RP oF oR ⊢;have HZA:Hid (wa.heap.size=wr.heap.size+1):=η (by rw [cO];simp);clear cO;refine bf (fun w'=>w'.cell? ⟨wr.heap.size,1,none⟩=some (ι pk)/\w'.cell? ⟨wr.heap.size,2,none⟩=some (ι pn)) 7 κ ?_;obtain⟨wd,hWd⟩:∃x:World,x=wa.drew:=⟨_,rfl⟩;rw [<-hWd];have GD:Grow wa wd:=by rw [hWd];exact(Grow.refl _).drew
     have zD:wa.heap.size=wd.heap.size:=by rw [hWd];rfl
     have ZD:=η zD;clear hWd zD;refine ni [0,1,2,4,5] 10 κ (fun _ _ _ _ _ h=>h) (⟨(cells3 (aj RP.o GD)).2.1,(cells3 (aj RP.o GD)).2.2⟩) ?_;repeat (refine gQ ?_;try simp only [aK])
     refine ny ?_;refine bO 3 κ rfl ?_;intro K HK;try simp only [aV]
     go_simp;go_at_call 126
     refine(uT (base:=w.heap.size) wd (oF.o.grow GD) (τ ((oR.o.trans GD).size)) HI1.o (τ wP.o)).mono ?_;rintro e w4 ⟨v4,rfl,pO,hm4⟩;obtain⟨a4,k4,rfl⟩:=aY pO;have R4:=η (hm4.row (aj RP.o GD) (fun q hq=>by have:=sE.o q hq;omega));have G4:=η (hm4.all (oR.o.trans GD) (fun q hq=>(oF.o.lt q hq).1));have FB:=η pO;have HW4:Hid (∀q,(Value.slice a4 (pre++fU pk).length k4).ownBlock=some q->q≠wr.heap.size):=η (fun q hq=>by
      have hz:=HZA.o;have hz2:=GD.size;rcases hm4.2 with e|⟨g,e,hg⟩
      ·rw [e] at hq;have:=sE.o q hq;omega
      ·rw [e] at hq;obtain rfl:=Option.some.inj hq;omega)
     have a_:Hid ((pre++fU pk).length+10<=140737488355328):=η (by have:=iP (cZ HI1.o).1 (cZ HI1.o).2;have:=wP.o;rw [List.length_append];omega);clear pO hm4;generalize pre++fU pk=YR at*;refine HK.o _ _ ⟨fun _=>⟨(cells3 R4.o).2.1,(cells3 R4.o).2.2⟩,?_⟩;clear HK K;try simp only [aK]
     refine bO 6 κ rfl ?_;intro K HK;try simp only [aV]
     go_simp;go_at_call 126
     refine(uT (base:=w.heap.size) w4 FB.o (τ G4.o.size) HI2.o a_.o).mono ?_;rintro e w6 ⟨v6,rfl,tX,I0⟩;obtain⟨a6,k6,rfl⟩:=aY tX;have R6:=η (I0.row R4.o (fun q hq e=>HW4.o q hq e.symm));have G6:=η (I0.all G4.o (fun q hq=>(FB.o.lt q hq).1));have Bl:=η tX;clear tX I0;generalize YR++fU pn=pre6 at*;refine HK.o _ _ ⟨fun _=>⟨(cells3 R6.o).2.1,(cells3 R6.o).2.2⟩,?_⟩;clear HK K;try simp only [aK]
     refine bO 7 κ rfl ?_;intro K HK;try simp only [aV]
     go_simp;refine HK.o _ _ ⟨fun h=>absurd rfl h,?_⟩;clear HK K;try simp only [aK]
     refine aO κ ?_;go_wp2;go_roundw
     case rel=>exact⟨k+1,δ,by go_num,G6.o,by rw [HN.o];exact Bl.o⟩
     case measure=>simp [intOf];omega
    ·rw [List.take_of_length_le δ,FU.o] at hown ⊢
     have HOW:=η hown;have HB:=η hb;have sI:Hid ((dX m).length<=111):=η (by
      rw [<-FU.o,List.length_append];have:=KH.o m.parts.length;rw [List.take_of_length_le (Nat.le_refl _)] at this;have:=BD.o;omega)
     obtain⟨z1,hz1⟩:∃z,z=UInt8.ofNat (qW (dX m)/256):=⟨_,rfl⟩;obtain⟨z2,hz2⟩:∃z,z=UInt8.ofNat (qW (dX m)):=⟨_,rfl⟩;have UE:Hid ((qW (dX m):Int)/256 % 256=(z1.toNat:Int)):=η (by rw [hz1,mV];omega);have HS2:Hid ((qW (dX m):Int) % 256=(z2.toNat:Int)):=η (by rw [hz2,mV];omega);have sL:Hid (dX m++ [z1,z2]=aS m):=η (by rw [hz1,hz2];rfl);have hs1:=yJ (dX m);have eM:=η (fun(W:World) (hW:Grow wr W)=>LG W ((HOW.o.grow hW).GT));clear hel hown hb hz1 hz2;generalize qW (dX m)=s at*;generalize dX m=hd at*;go_wp2_with fail
     refine(eM.o _ (Grow.refl _)).mono ?_;rintro e w7 ⟨rfl,hb7⟩;have uU:=η (HOW.o.grow hb7);have wZ:=η (HB.o.trans hb7);have eO:w.heap.size<=w7.heap.size:=wZ.o.size;clear hb7;go_wp2_with (at_builtin;refine Lr rfl _ _ rfl rfl uU.o eO rfl rfl [z1,z2] ?e0 rfl ?e1 ?_)
     case e0=>exact two_bytes (by first|exact UE.o|(rw [<-UE.o];omega)) (by first|exact HS2.o|(rw [<-HS2.o];omega))
     case e1=>have:=sI.o;simp;omega
     intro v9 w9 fB YS;have iF:=η fB;have sU:=η (YS.all wZ.o (fun q hq=>(uU.o.lt q hq).1));clear fB YS;go_wp2;go_ret;exact⟨_,rfl,by rw [<-sL.o];exact iF.o,sU.o⟩
theorem LK {b:List UInt8} {k u:Nat} {X:Int×Int×Int} (h:lG k u (b.drop k)=X) (hk:k<b.length):(if 6<=k then((0:Int),(0:Int),(3:Int)) else if 128<=b[k].toNat then lG (k+1) (u+b[k].toNat % 128*128^k) (b.drop (k+1))
  else if 0<k/\b[k].toNat=0 then(0,0,2) else(zag (u+b[k].toNat % 128*128^k),(k:Int)+1,0))=X:=by
 rw [List.drop_eq_getElem_cons hk,lG] at h;exact h
theorem QT {b:List UInt8} {k u:Nat} {X:Int×Int×Int} (h:lG k u (b.drop k)=X) (hk:¬k<b.length):((0:Int),(0:Int),(8:Int))=X:=by
 rw [List.drop_of_length_le δ,lG] at h;exact h
theorem t_ {x y z:Int} {X:Int×Int×Int} (h:(x,y,z)=X):Ending.returned (.tuple #[ι x,ι y,ι z])=.returned (.tuple #[ι X.1,ι X.2.1,ι X.2.2]):=by rw [<-h]
theorem eQ {u x k:Nat} (hk:k<6) (hu:u<128^k) (_:x<256):bits .or .u64 (u:Int) (IntKind.u64.wrap ((x:Int) % 128*2^(7*k)))=((u+x % 128*128^k:Nat):Int):=by
 rw [<-OD (v:=x % 128) hu (Nat.mod_lt _ ε) hk];congr 1;have h6:(128:Nat)^k<=128^5:=Nat.pow_le_pow_right ε δ;have h5:(128:Nat)^5=34359738368:=by decide
 have hm:x % 128*128^k<=127*128^k:=Nat.mul_le_mul_right _ δ;have e:(x:Int) % 128*2^(7*k)=((x % 128*128^k:Nat):Int):=by
  rw [<-eJ];simp
 rw [e,IntKind.wrap_u64];omega
theorem LM {u x k:Nat} (hk:k<6) (hu:u<128^k):u+x % 128*128^k<128^(k+1)/\u+x % 128*128^k<4398046511104:=by
 have hm:x % 128*128^k<=127*128^k:=Nat.mul_le_mul_right _ δ;have h6:(128:Nat)^(k+1)<=128^6:=Nat.pow_le_pow_right ε δ;have h5:(128:Nat)^6=4398046511104:=by decide
 have h7:(128:Nat)^(k+1)=128*128^k:=by rw [Nat.pow_succ,Nat.mul_comm]
 omega
theorem YT {q:Nat} (h:q<4398046511104):bits .and .u64 (q:Int) 1=(q:Int) % 2:=by
 rw [TI δ];omega
theorem YU {q:Nat} (h:q<4398046511104):bits .xor .i64 ((q:Int)/2) (-((q:Int) % 2))=zag q:=by
 rw [<-VK δ];rfl
theorem VX {v:Value} {b:List UInt8} (w:World) (hv:Sz w.cell? v b):
  Calls Tryz.prog 139 #[v] w fun e w'=>e=.returned (.tuple #[ι (dP b).1,ι (dP b).2.1,ι (dP b).2.2])/\Grow w w':=by
 obtain⟨a,cap,rfl,h1,h2,-,hel⟩:=hv;unfold maxLen at h2;go_enter Tryz.func139,Tryz.ntmps139;go_wp2;go_loopw [5,10] (fun u i wr=>∃k u':Nat,k<=b.length/\k<=6/\i=ι k/\u=.int .u64 u'/\u'<128^k/\lG k u' (b.drop k)=dP b/\Grow w wr) (fun _ i _=>b.length - (intOf i).toNat)
 case atStart=>exact⟨0,0,δ,δ,rfl,rfl,σ,rfl,gY⟩
 case round=>
  obtain⟨k,u,hk',hk6,rfl,rfl,hu,hE,hb⟩:=hrel;by_cases hlt:k<b.length
  ·obtain⟨bb,o,rfl,c0⟩:=byteAt hel k hlt
   replace c0:=hb.sub _ _ c0;have hE2:=LK hE hlt;have hx:=b[k].toNat_lt;clear hel hE;obtain⟨x,hxe⟩:∃x,x=b[k].toNat:=⟨_,rfl⟩;rw [<-hxe] at c0 hx hE2;clear hxe;by_cases h6:6<=k
   ·rw [if_pos h6] at hE2
    have HE:=η hE2;clear hE2;go_wp2;refine bodyPost_ret (v:=.tuple #[ι 0,ι 0,ι 3]) (by simp [results,Tryz.results139,go_sem]) rfl ?_;exact⟨t_ HE.o,hb⟩
   ·rw [if_neg h6] at hE2
    have hor:=eQ δ hu hx;obtain⟨hq1,hq2⟩:=LM (x:=x) δ hu;obtain⟨q,hqe⟩:∃q,q=u+x % 128*128^k:=⟨_,rfl⟩;rw [<-hqe] at hE2 hor hq1 hq2;have hand:=YT hq2;have HX:=η (YU hq2);have uw:=η hq1;have HE:=η hE2;have A0a:=Lm hx;clear hE2 hqe hq1 hu;by_cases h8:128<=x
    ·go_wp2
     go_roundw
     case rel=>exact⟨k+1,q,δ,δ,by go_num,by go_num,uw.o,by have h9:=HE.o;rwa [if_pos h8] at h9,hb⟩
     case measure=>simp [intOf];omega
    ·by_cases h9:0<k/\x=0
     ·have HE2:=η (show((0:Int),(0:Int),(2:Int))=dP b by have eR:=HE.o;rwa [if_neg h8,if_pos h9] at eR)
      obtain⟨h9a,rfl⟩:=h9;go_wp2;refine bodyPost_ret (v:=.tuple #[ι 0,ι 0,ι 2]) (by simp [results,Tryz.results139,go_sem]) rfl ?_;exact⟨t_ HE2.o,gY⟩
     ·have HE2:=η (show(zag q,(k:Int)+1,(0:Int))=dP b by have eR:=HE.o;rwa [if_neg h8,if_neg h9] at eR)
      by_cases hk0:0<k
      ·have hx0:¬x=0:=fun e=>h9 ⟨hk0,e⟩
       have hbx:((x:Int)==0)=false:=by simp [hx0]
       clear h9 hx0;go_wp2;refine bodyPost_ret (v:=.tuple #[ι (zag q),ι ((k:Int)+1),ι 0]) (by simp [results,Tryz.results139,go_sem,HX.o]) rfl ?_;exact⟨t_ HE2.o,gY⟩
      ·clear h9
       go_wp2;refine bodyPost_ret (v:=.tuple #[ι (zag q),ι ((k:Int)+1),ι 0]) (by simp [results,Tryz.results139,go_sem,HX.o]) rfl ?_;exact⟨t_ HE2.o,gY⟩
  ·have HE:=η (QT hE hlt)
   clear hE;go_wp2;refine bodyPost_ret (v:=.tuple #[ι 0,ι 0,ι 8]) (by simp [results,Tryz.results139,go_sem]) rfl ?_;exact⟨t_ HE.o,hb⟩
theorem YV {v:Value} {b:List UInt8} (w:World) (hv:Sz w.cell? v b):
  Calls Tryz.prog 94 #[v] w fun e w'=>e=.returned (.tuple #[ι (dP b).1,ι (dP b).2.1,ι (dP b).2.2])/\Grow w w':=by
 obtain⟨a,cap,rfl,h1,h2,-,hel⟩:=hv;unfold maxLen at h2;go_enter Tryz.func94,Tryz.ntmps94;go_wp2;go_loopw [5,6,7] (fun u g i wr=>∃k q p:Nat,k<=b.length/\k<=6/\i=ι k/\u=ι q/\g=ι p/\p=128^k/\q<128^k/\lG k q (b.drop k)=dP b/\Grow w wr) (fun _ _ i _=>b.length - (intOf i).toNat)
 case atStart=>exact⟨0,0,1,δ,δ,rfl,rfl,rfl,rfl,σ,rfl,gY⟩
 case round=>
  obtain⟨k,u,p,hk',hk6,rfl,rfl,rfl,hp,hu,hE,hb⟩:=hrel;by_cases hlt:k<b.length
  ·obtain⟨bb,o,rfl,c0⟩:=byteAt hel k hlt
   replace c0:=hb.sub _ _ c0;have hE2:=LK hE hlt;have hx:=b[k].toNat_lt;clear hel hE;obtain⟨x,hxe⟩:∃x,x=b[k].toNat:=⟨_,rfl⟩;rw [<-hxe] at c0 hx hE2;clear hxe;have hne:((k:Int)==(b.length:Int))=false:=by rw [beq_eq_false_iff_ne];omega
   by_cases h6:6<=k
   ·rw [if_pos h6] at hE2
    have HE:=η hE2;have h6e:((k:Int)==6)=true:=by rw [beq_iff_eq];omega
    clear hE2 hp hu;go_wp2;refine bodyPost_ret (v:=.tuple #[ι 0,ι 0,ι 3]) (by simp [results,Tryz.results94,go_sem]) rfl ?_;exact⟨t_ HE.o,hb⟩
   ·rw [if_neg h6] at hE2
    have h6e:((k:Int)==6)=false:=by rw [beq_eq_false_iff_ne];omega
    obtain⟨hq1,hq2⟩:=LM (x:=x) δ hu;have hp5:p<=34359738368:=by
     rw [hp];have h6:(128:Nat)^k<=128^5:=Nat.pow_le_pow_right ε δ;have h5:(128:Nat)^5=34359738368:=by decide
     omega
    have HP:=η (show p*128=128^(k+1) by rw [hp,Nat.pow_succ]);rw [<-hp] at hE2 hq2 hq1 hu;obtain⟨m,hm⟩:∃m,m=x % 128*p:=⟨_,rfl⟩;rw [<-hm] at hE2 hq2 hq1;have hmul:((x:Int) % 128)*(p:Int)=(m:Int):=by rw [hm];simp
    obtain⟨q,hqe⟩:∃q,q=u+m:=⟨_,rfl⟩;have hadd:(u:Int)+(m:Int)=(q:Int):=by omega
    have hqm:m<=q:=by omega
    rw [<-hqe] at hE2 hq1 hq2;have uw:=η hq1;have HE:=η hE2;clear hE2 hqe hq1 hu hp hm;by_cases h8:128<=x
    ·go_wp2
     go_roundw
     case rel=>exact⟨k+1,q,p*128,δ,δ,by go_num,by go_num,by go_num,HP.o,uw.o,by have h9:=HE.o;rwa [if_pos h8] at h9,gY⟩
     case measure=>simp [intOf];omega
    ·by_cases h9:0<k/\x=0
     ·have HE2:=η (show((0:Int),(0:Int),(2:Int))=dP b by have eR:=HE.o;rwa [if_neg h8,if_pos h9] at eR)
      obtain⟨h9a,rfl⟩:=h9;go_wp2;refine bodyPost_ret (v:=.tuple #[ι 0,ι 0,ι 2]) (by simp [results,Tryz.results94,go_sem]) rfl ?_;exact⟨t_ HE2.o,gY⟩
     ·have HE2:=η (show(zag q,(k:Int)+1,(0:Int))=dP b by have eR:=HE.o;rwa [if_neg h8,if_neg h9] at eR)
      have hcase:(0<k/\¬x=0)∨¬0<k:=by
       by_cases hk0:0<k
       ·exact .inl ⟨hk0,fun e=>h9 ⟨hk0,e⟩⟩
       ·exact .inr hk0
      clear h9;by_cases hodd:q % 2=1
      ·have HZ:Hid (zag q= -((q:Int)/2) - 1):=by show zag q=_;unfold zag;rw [if_pos hodd];simp
       have ho:((q:Int) % 2==1)=true:=by rw [beq_iff_eq];omega
       clear hodd;rcases hcase with⟨hk0,hx0⟩|hk0
       ·have hbx:((x:Int)==0)=false:=by rw [beq_eq_false_iff_ne];omega
        clear hx0;go_wp2;refine bodyPost_ret (v:=.tuple #[ι (zag q),ι ((k:Int)+1),ι 0]) (by simp [results,Tryz.results94,go_sem,HZ.o]) rfl ?_;exact⟨t_ HE2.o,gY⟩
       ·go_wp2
        refine bodyPost_ret (v:=.tuple #[ι (zag q),ι ((k:Int)+1),ι 0]) (by simp [results,Tryz.results94,go_sem,HZ.o]) rfl ?_;exact⟨t_ HE2.o,gY⟩
      ·have HZ:Hid (zag q=(q:Int)/2):=by show zag q=_;unfold zag;rw [if_neg hodd];simp
       have ho:((q:Int) % 2==1)=false:=by rw [beq_eq_false_iff_ne];omega
       clear hodd;rcases hcase with⟨hk0,hx0⟩|hk0
       ·have hbx:((x:Int)==0)=false:=by rw [beq_eq_false_iff_ne];omega
        clear hx0;go_wp2;refine bodyPost_ret (v:=.tuple #[ι (zag q),ι ((k:Int)+1),ι 0]) (by simp [results,Tryz.results94,go_sem,HZ.o]) rfl ?_;exact⟨t_ HE2.o,gY⟩
       ·go_wp2
        refine bodyPost_ret (v:=.tuple #[ι (zag q),ι ((k:Int)+1),ι 0]) (by simp [results,Tryz.results94,go_sem,HZ.o]) rfl ?_;exact⟨t_ HE2.o,gY⟩
  ·have HE:=η (QT hE hlt)
   have hne:((k:Int)==(b.length:Int))=true:=by rw [beq_iff_eq];omega
   clear hE hp hu;go_wp2;refine bodyPost_ret (v:=.tuple #[ι 0,ι 0,ι 8]) (by simp [results,Tryz.results94,go_sem]) rfl ?_;exact⟨t_ HE.o,hb⟩
end Go.Proofs.YtocnmkefmgmkbaaGreat
namespace Go.Proofs.YtocnmkefmgmkbaaGreat
abbrev RS:=List UInt8×Int
def bF (s:RS):Int×RS:=if s.2≠0 then(0,s) else if(dP s.1).2.2≠0 then(0,s.1,(dP s.1).2.2) else((dP s.1).1,s.1.drop (dP s.1).2.1.toNat,0)
def dR:Nat->RS->List Int×RS
 |0,s=>([],s)
 |n+1,s=>((bF s).1::(dR n (bF s).2).1,(dR n (bF s).2).2)
theorem Af:∀(n:Nat) (s:RS),(dR n s).1.length=n
 |0,_=>rfl
 |n+1,s=>by rw [dR];simp [Af n]
theorem xE:∀(n:Nat) (s:RS),dR (n+1) s=((dR n s).1++ [(bF (dR n s).2).1],(bF (dR n s).2).2)
 |0,s=>rfl
 |n+1,s=>by
  rw [dR,xE n];rfl
theorem Ee {l:List UInt8} (h:(dP l).2.2=0):bF (l,0)=((dP l).1,l.drop (dP l).2.1.toNat,0):=by
 unfold bF;rw [if_neg σ,if_neg (by simpa using h)]
theorem He {l:List UInt8} (h:(dP l).2.2≠0):bF (l,0)=(0,l,(dP l).2.2):=by
 unfold bF;rw [if_neg σ,if_pos h]
theorem BF {l:List UInt8} {e:Int} (h:e≠0):bF (l,e)=(0,l,e):=by
 unfold bF;rw [if_pos h]
theorem BI:∀(n:Nat) {l:List UInt8} {e:Int},e≠0->dR n (l,e)=(List.replicate n 0,l,e)
 |0,_,_,_=>rfl
 |n+1,l,e,h=>by rw [dR,BF h,BI n h];rfl
theorem Ef:∀(n:Nat) {l:List UInt8} {xs:List Int} {r:List UInt8},ji n l=.inl (xs,r)->dR n (l,0)=(xs,r,0)
 |0,l,xs,r,h=>by
  simp only [ji,Sum.inl.injEq,Prod.mk.injEq] at h;obtain⟨rfl,rfl⟩:=h;rfl
 |n+1,l,xs,r,h=>by
  rw [ji] at h;split at h
  ·rename_i h0
   cases hn:ji n (l.drop (dP l).2.1.toNat) with
   |inr e=>rw [hn] at h;simp at h
   |inl p=>
    obtain⟨ys,r'⟩:=p;rw [hn] at h;simp only [Sum.inl.injEq,Prod.mk.injEq] at h;obtain⟨rfl,rfl⟩:=h;rw [dR,Ee h0,Ef n hn]
  ·simp at h
theorem Ag:∀(n:Nat) {l:List UInt8} {e:Int},ji n l=.inr e->∃xs r,dR n (l,0)=(xs,r,e)/\e≠0/\xs.getD (n - 1) 0=0
 |0,l,e,h=>by simp [ji] at h
 |n+1,l,e,h=>by
  rw [ji] at h;split at h
  ·rename_i h0
   cases hn:ji n (l.drop (dP l).2.1.toNat) with
   |inl p=>
    obtain⟨ys,r'⟩:=p;rw [hn] at h;simp at h
   |inr e'=>
    rw [hn] at h;simp only [Sum.inr.injEq] at h;subst h;obtain⟨xs,r,h1,h2,h3⟩:=Ag n hn;refine⟨(dP l).1::xs,r,by rw [dR,Ee h0,h1],h2,?_⟩;cases n with
    |zero=>simp [ji] at hn
    |succ n=>simpa using h3
  ·rename_i h0
   simp only [Sum.inr.injEq] at h;subst h;refine⟨List.replicate (n+1) 0,l,by rw [dR,He h0,BI n h0];rfl,h0,?_⟩;simp
def uV (m:Ms) (t:RS):Ms×Int:=
 if(if t.2=0/\t.1≠ [] then 2 else t.2)=0 then(if aQ m=0 then(m,0) else(ms0,aQ m)) else(ms0,if t.2=0/\t.1≠ [] then 2 else t.2)
def QU (kind:Int) (l:List UInt8):Ms×Int:=
 if(dR 3 (l,0)).2.2=0/\((dR 3 (l,0)).1.getD 2 0<0∨4<(dR 3 (l,0)).1.getD 2 0) then(ms0,5)
 else uV ⟨kind,(dR 3 (l,0)).1.getD 0 0,(dR 3 (l,0)).1.getD 1 0,pairs ((dR 3 (l,0)).1.getD 1 0) (dR (2*((dR 3 (l,0)).1.getD 2 0).toNat) (dR 3 (l,0)).2).1⟩ (dR (2*((dR 3 (l,0)).1.getD 2 0).toNat) (dR 3 (l,0)).2).2
theorem OJ (kind:Int) (l:List UInt8):QU kind l=readBody kind l:=by
 unfold QU readBody;cases h3:ji 3 l with
 |inr e=>
  obtain⟨xs,r,h1,h2,h4⟩:=Ag 3 h3;rw [h1];simp only;rw [if_neg (fun h=>h2 h.1)];have h5:xs.getD 2 0=0:=h4;rw [h5];simp only [Int.toNat_zero,Nat.mul_zero,dR];unfold uV;rw [if_neg (by simp [h2])];simp [h2]
 |inl p=>
  obtain⟨xs,r⟩:=p;rw [Ef 3 h3];simp only [true_and];by_cases hn:xs.getD 2 0<0∨4<xs.getD 2 0
  ·rw [if_pos hn,if_pos hn]
  ·rw [if_neg hn,if_neg hn]
   cases h4:ji (2*(xs.getD 2 0).toNat) r with
   |inr e=>
    obtain⟨ys,r',h5,h6,-⟩:=Ag _ h4;rw [h5];unfold uV;simp [h6]
   |inl p=>
    obtain⟨ys,r'⟩:=p;rw [Ef _ h4];unfold uV;by_cases hr:r'=[]
    ·simp [hr]
    ·simp [hr]
theorem YW (b:List UInt8):readB b=if b.length<3 then(ms0,8) else if tZ b=true then QU ((b.getD 0 0).toNat:Nat) ((b.take (b.length - 2)).drop 1) else(ms0,7):=by
 unfold readB;rw [OJ]
theorem xG (h:Int):∀(n:Nat) {xs:List Int} {k x:Int},xs.length=2*n->pairs h (xs++ [k,x])=pairs h xs++ [⟨h,k,x⟩]
 |0,xs,k,x,hl=>by
  obtain rfl:xs=[]:=List.eq_nil_of_length_eq_zero δ;rfl
 |n+1,xs,k,x,hl=>by
  match xs,hl with
  | [],hl=>simp at hl
  | [a],hl=>simp at hl;omega
  |a::b::xs,hl=>
   simp only [List.cons_append,pairs];rw [xG h n (by simp at hl;omega)]
theorem Eh (h:Int) (n:Nat) (s:RS):pairs h (dR (2*(n+1)) s).1=pairs h (dR (2*n) s).1++ [⟨h,(bF (dR (2*n) s).2).1,(bF (bF (dR (2*n) s).2).2).1⟩]/\
  (dR (2*(n+1)) s).2=(bF (bF (dR (2*n) s).2).2).2:=by
 rw [show 2*(n+1)=2*n+1+1 by omega,xE,xE];simp only [List.append_assoc,List.cons_append,List.nil_append];exact⟨xG h n (Af _ _),trivial⟩
theorem TP {u:Nat} (h:u<4398046511104):-2199023255552<=zag u/\zag u<2199023255552:=by
 unfold zag;split<;>omega
theorem BJ:∀(b:List UInt8) (i u:Nat),u<128^i->-2199023255552<=(lG i u b).1/\(lG i u b).1<2199023255552/\0<=(lG i u b).2.1/\(lG i u b).2.1<=i+b.length/\0<=(lG i u b).2.2/\(lG i u b).2.2<=8
 | [],i,u,_=>by
  rw [lG];refine⟨ε,ε,ε,?_,ε,ε⟩;show(0:Int)<=_;omega
 |c::b,i,u,hu=>by
  have hx:c.toNat % 128<=127:=by omega
  have hm:c.toNat % 128*128^i<=127*128^i:=Nat.mul_le_mul_right _ hx;have hlt:u+c.toNat % 128*128^i<128^(i+1):=by
   rw [Nat.pow_succ];omega
  rw [lG];split
  ·refine⟨ε,ε,ε,?_,ε,ε⟩
   show(0:Int)<=_;omega
  ·rename_i h6
   split
   ·have:=BJ b (i+1) _ hlt
    simp only [List.length_cons];push_cast at this ⊢;omega
   ·split
    ·refine⟨ε,ε,ε,?_,ε,ε⟩
     show(0:Int)<=_;omega
    ·have h6':(128:Nat)^(i+1)<=128^6:=Nat.pow_le_pow_right ε δ
     have e6:(128:Nat)^6=4398046511104:=by decide
     have:=TP (u:=u+c.toNat % 128*128^i) δ;simp only [List.length_cons];push_cast;refine⟨this.1,this.2,δ,δ,ε,ε⟩
theorem xH (b:List UInt8):-2199023255552<=(dP b).1/\(dP b).1<2199023255552/\0<=(dP b).2.1/\(dP b).2.1<=b.length/\0<=(dP b).2.2/\(dP b).2.2<=8:=by
 have:=BJ b 0 0 ε;unfold dP;refine⟨this.1,this.2.1,this.2.2.1,?_,this.2.2.2.2⟩;have h:=this.2.2.2.1;simp only [Int.natCast_zero,Int.zero_add] at h;exact h
theorem BK (s:RS):-2199023255552<=(bF s).1/\(bF s).1<2199023255552:=by
 have:=xH s.1;unfold bF;split
 ·exact⟨(by show(-2199023255552:Int)<=0;decide),(by show(0:Int)<2199023255552;decide)⟩
 ·split
  ·exact⟨(by show(-2199023255552:Int)<=0;decide),(by show(0:Int)<2199023255552;decide)⟩
  ·exact⟨this.1,this.2.1⟩
end Go.Proofs.YtocnmkefmgmkbaaGreat
namespace Go.Proofs.YtocnmkefmgmkbaaGreat
open Go.RowKit
theorem Sl.drop {α:Type} {T:Ty α} {c:CM} {b o n cap:Nat} {l:List α} (h:Sl T c (ς (some ⟨b,o,none⟩) n cap) l) (k:Nat) (hk:k<=n):Sl T c (ς (some ⟨b,o+k*T.size,none⟩) (n - k) (cap - k)) (l.drop k):=by
 obtain⟨a',cap',he,h1,h2,h3,hel⟩:=h;simp only [Value.slice.injEq] at he;obtain⟨rfl,rfl,rfl⟩:=he;refine⟨_,cap - k,by rw [List.length_drop],by rw [List.length_drop];omega,δ,σ,fun i x e=>?_⟩;rw [List.getElem?_drop] at e;obtain⟨b',o',cs,ha,hR,hA⟩:=hel _ x e;simp only [Option.some.injEq,Addr.mk.injEq] at ha;obtain⟨rfl,rfl,-⟩:=ha;refine⟨b,o+k*T.size,cs,rfl,hR,?_⟩;have e2:o+(k+i)*T.size=o+k*T.size+i*T.size:=by rw [Nat.add_mul,Nat.add_assoc]
 rw [<-e2];exact hA
theorem Sl.none' {α:Type} (T:Ty α) (c:CM) (a:Addr) {l:List α} (hl:l=[]):Sl T c (ς (some a) 0 0) l:=by
 subst hl;exact⟨some a,0,rfl,Nat.le_refl _,Nat.zero_le _,σ,fun i x e=>by simp at e⟩
theorem cells2 {w:World} {B:Nat} {a b:Value} {t:TypeId} (h:w.heap[B]? =some (.cells #[a,b] t (0,0))):w.cell? ⟨B,0,none⟩=some a/\w.cell? ⟨B,1,none⟩=some b:=by
 refine⟨?_,?_⟩<;>simp [World.cell?,h]
theorem Ei {w:World} {B:Nat} {a b:Value} {t:TypeId} (h:w.heap[B]? =some (.cells #[a,b] t (0,0))) (u:Value):(w.setCell ⟨B,0,none⟩ u).heap[B]? =some (.cells #[u,b] t (0,0)):=by
 simp only [World.setCell,Array.getElem?_modify,h];simp
theorem xI {w:World} {B:Nat} {a b:Value} {t:TypeId} (h:w.heap[B]? =some (.cells #[a,b] t (0,0))) (u:Value):(w.setCell ⟨B,1,none⟩ u).heap[B]? =some (.cells #[a,u] t (0,0)):=by
 simp only [World.setCell,Array.getElem?_modify,h];simp
def TQ (w:World) (B:Nat) (c:CM) (s:RS):Prop:=∃a cap,w.heap[B]? =some (.cells #[ς a s.1.length cap,ι s.2] 161 (0,0))/\Sl Ty.byte c (ς a s.1.length cap) s.1
theorem TQ.grow {w w':World} {B:Nat} {c:CM} {s:RS} (h:TQ w B c s) (hg:Grow w w'):TQ w' B c s:=by
 obtain⟨a,cap,h1,h2⟩:=h;exact⟨a,cap,aj h1 hg,h2⟩
theorem lJ {w:World} {B:Nat} {c:CM} {s:RS} (hr:TQ w B c s) (hc:Sub c w.cell?):
  Calls Tryz.prog 124 #[.pointer (some ⟨B,0,none⟩)] w fun e w'=>e=.returned (ι (bF s).1)/\TQ w' B c (bF s).2/\w.grownBy w' (some B):=by
 obtain⟨l,er⟩:=s;obtain⟨a,cap,hrow,hl⟩:=hr;simp only at hrow hl;have yw:=η hrow;have HL:=η hl;obtain⟨c0,c1⟩:=cells2 hrow;have zB:B<w.heap.size:=(γ hrow);have f0:=dA hrow;clear hrow;by_cases he:er=0
 ·subst he
  have HG:=η (VX w (hl.mono hc));obtain⟨-,-,hb0,hb1,hb2,hb3⟩:=xH l;by_cases h2:(dP l).2.2=0
  ·have HE:=η (Ee h2)
   obtain⟨k,hk⟩:∃k:Nat,(dP l).2.1=k:=⟨(dP l).2.1.toNat,δ⟩;have hne:l≠ []:=fun e=>by rw [e] at h2;revert h2;decide
   rw [hk] at HG HE;rw [h2] at HG;have hkl:k<=l.length:=by omega
   simp only [Int.toNat_natCast] at HE;clear hb0 hb1 hb2 hb3 h2 hk;obtain⟨a',cap',hf,g1,g2,g3,hel⟩:=id hl;simp only [Value.slice.injEq,true_and] at hf;obtain⟨rfl,rfl⟩:=hf;unfold maxLen at g2;have hlp:0<l.length:=List.length_pos_iff.2 hne;obtain⟨bb,o,cs,rfl,-,-⟩:=hel 0 l[0] σ;clear hel hne g3;by_cases hcap:cap=k
   ·have HD:Hid (Sl Ty.byte c (ς (some ⟨bb,o,none⟩) 0 0) (l.drop k)):=η (Sl.none' _ _ _ (List.drop_eq_nil_of_le δ))
    have FP:Hid ((l.drop k).length=0):=η (by rw [List.length_drop];omega);obtain rfl:=hcap;clear hl;generalize (dP l).1=x at*;go_enter Tryz.func124,Tryz.ntmps124;go_wp2_with fail
    refine HG.o.mono ?_;rintro e w1 ⟨rfl,hb1⟩;have R1:=η (aj yw.o hb1);have HB1:=η hb1;obtain⟨d0,d1⟩:=cells2 R1.o;have zB1:B<w1.heap.size:=(γ R1.o);have f1:=dA R1.o;clear hb1 c0 c1 f0;go_wp2;go_ret;refine⟨bC (by rw [HE.o]),?_,grownBy_trans (ak HB1.o (some B)) (grownBy_setCell w1 ⟨B,0,none⟩ _)⟩;rw [HE.o];have h9:=Ei R1.o (ς (some ⟨bb,o,none⟩) 0 0);refine⟨some ⟨bb,o,none⟩,0,?_,?_⟩
    ·rw [show(l.drop cap,(0:Int)).1.length=0 from FP.o]
     exact h9
    ·rw [show(l.drop cap,(0:Int)).1.length=0 from FP.o];exact HD.o
   ·have HD:=η (hl.drop k hkl)
    have FP:Hid ((l.drop k).length=l.length - k):=η (List.length_drop);clear hl;generalize (dP l).1=x at*;go_enter Tryz.func124,Tryz.ntmps124;go_wp2_with fail
    refine HG.o.mono ?_;rintro e w1 ⟨rfl,hb1⟩;have R1:=η (aj yw.o hb1);have HB1:=η hb1;obtain⟨d0,d1⟩:=cells2 R1.o;have zB1:B<w1.heap.size:=(γ R1.o);have f1:=dA R1.o;clear hb1 c0 c1 f0;go_wp2;go_ret;refine⟨bC (by rw [HE.o]),?_,grownBy_trans (ak HB1.o (some B)) (grownBy_setCell w1 ⟨B,0,none⟩ _)⟩;rw [HE.o];have h9:=Ei R1.o (ς (some ⟨bb,o+k,none⟩) (l.length - k) (cap - k));refine⟨some ⟨bb,o+k,none⟩,cap - k,?_,?_⟩
    ·rw [show(l.drop k,(0:Int)).1.length=l.length - k from FP.o]
     exact h9
    ·rw [show(l.drop k,(0:Int)).1.length=l.length - k from FP.o];simpa [Ty.byte] using HD.o
  ·have HE:=η (He h2)
   clear hb0 hb1;have hb4:((dP l).2.2 !=0)=true:=by simp [h2]
   clear h2 hl;generalize (dP l).1=x at*;generalize (dP l).2.1=y at*;generalize (dP l).2.2=z at*;go_enter Tryz.func124,Tryz.ntmps124;go_wp2_with fail
   refine HG.o.mono ?_;rintro e w1 ⟨rfl,hb1⟩;have R1:=η (aj yw.o hb1);have HB1:=η hb1;obtain⟨d0,d1⟩:=cells2 R1.o;have zB1:B<w1.heap.size:=(γ R1.o);have f1:=dA R1.o;clear hb1 c0 c1 f0;go_wp2;go_ret;refine⟨bC (by rw [HE.o]),?_,grownBy_trans (ak HB1.o (some B)) (grownBy_setCell w1 ⟨B,1,none⟩ _)⟩;rw [HE.o];exact⟨a,cap,xI R1.o _,HL.o⟩
 ·have HE:=η (BF (l:=l) he)
  have hb4:(er !=0)=true:=by simp [he]
  clear he hl;go_enter Tryz.func124,Tryz.ntmps124;go_wp2;go_ret;refine⟨bC (by rw [HE.o]),?_,ak (Grow.refl _) _⟩;rw [HE.o];exact⟨a,cap,yw.o,HL.o⟩
theorem rE.pts {w:World} {base e:Nat} {v:Value} {l:List Pt} (c:CM) (h:rE Ty.pt w base e v l):aI Ty.pt c w base e v l:=by
 obtain⟨css,h1,h2,h3⟩:=h;exact⟨css,h1,h2,fun i cs x a b=>h3 i cs x a b⟩
theorem eS {B:Nat} {n:Int} (wx:World) (cs:List Value) (x:Pt) (hB:B<wx.heap.size) (hc:wx.cell? ⟨B,0,none⟩=some (ι n)) (hR:Ty.pt.R wx.cell? cs x):
  Calls Tryz.prog 152 #[.agg cs.toArray,.pointer (some ⟨B,0,none⟩)] wx fun e w'=>e=.returned (.bool (x.h !=n))/\Grow wx w':=by
 obtain⟨rfl,-⟩:=hR;obtain⟨ph,pk,pn⟩:=x;unfold Pt.cells;simp only;go_enter Tryz.func152,Tryz.ntmps152;go_wp2;go_ret;exact⟨rfl,gY⟩
theorem QV {v:Value} {l:List Pt} {n:Int} (w:World) (hv:m_ w.cell? v l) (hm:l.length*24<=140737488355328):
  Calls Tryz.prog 134 #[v,ι n] w fun e w'=>∃v',e=.returned v'/\aI Ty.pt (fun _=>none) w' w.heap.size 111 v' (jF l n)/\Grow w w':=by
 have qp:=η (m_.ok hv);have CS:=η (pz (w.alloc (.cells #[ι n] 3)) (hv.mono ((Grow.refl w).alloc _).sub) hm);have Aa:Hid ((w.alloc (.cells #[ι n] 3)).cell? ⟨w.heap.size,0,none⟩=some (ι n)):=η (by rw [World.cell?_alloc_new];rfl);clear hv;go_enter Tryz.func134,Tryz.ntmps134;go_wp2_with fail
 refine CS.o.mono ?_;rintro e w1 ⟨v1,rfl,hown,hb1⟩;have hT:rE Ty.pt w1 (w.alloc (.cells #[ι n] 3)).heap.size 111 v1 l:=rE.of_flat (T:=Ty.pt) (f:=Pt.cells) hown fun c x hx=>⟨rfl,qp.o x hx⟩;have hT0:aI Ty.pt (fun _=>none) w1 (w.alloc (.cells #[ι n] 3)).heap.size 111 v1 l:=hT.pts _;have hlt:=hT0.lt;have hc1:w1.cell? ⟨w.heap.size,0,none⟩=some (ι n):=hb1.sub _ _ Aa.o;have hz1:w.heap.size<w1:=by have:=hb1.size;simp at this;omega
 have hne:∀k,v1.ownBlock=some k->w.heap.size≠k:=fun k hk=>by have:=(hlt k hk).1;simp at this;omega
 have HD:=η (FQ hT (F:=152) (caps:=#[.pointer (some ⟨w.heap.size,0,none⟩)]) (p:=fun x=>x.h !=n) ⟨fun args w=>κ,fun wx cs x hg _ hR=>by
  refine eS wx cs x (Nat.lt_of_lt_of_le hz1 hg.size) ?_ hR;rw [World.cell?_of_block (hg.block w.heap.size hz1 (fun e=>hne _ e.symm rfl))];exact hc1⟩)
 obtain⟨a1,c1,rfl⟩:=hT0.form;have HB1:=η (((Grow.refl w).alloc (.cells #[ι n] 3)).trans hb1);have S_:=η hlt;clear hT hT0 hown hb1 hlt hc1 hz1 hne;go_wp2_with fail
 refine HD.o.mono ?_;rintro e w2 ⟨v2,rfl,hT2,hg2,-⟩;have HX:Hid (aI Ty.pt (fun _=>none) w2 w.heap.size 111 v2 (jF l n)):=η (by
  have h:=(hT2.pts (fun _=>none)).base (b':=w.heap.size) σ;have e:(l.filter fun x=>!(x.h !=n))=jF l n:=by unfold jF;congr 1;funext x;show(!(!(x.h==n)))=_;simp
  rw [<-e];exact h)
 have HG:Hid (Grow w w2):=η (HB1.o.grown hg2 fun k hk=>by have:=(S_.o k hk).1;simp at this;omega);clear hT2 hg2;go_wp2;go_ret;exact⟨_,rfl,HX.o,HG.o⟩
theorem eT {l:List Pt} {n:Int}:(jF l n).length=l.length↔l.all (fun p=>p.h==n)=true:=by
 unfold jF;rw [List.length_filter_eq_length_iff,List.all_eq_true]
theorem OL {v:Value} {m:Ms} (w:World) (hv:Of Ty.ms w.cell? v m):
  Calls Tryz.prog 125 #[v] w fun e w'=>e=.returned (ι (aQ m))/\Grow w w':=by
 obtain⟨ap,cp,rfl⟩:=hv.fQ;obtain⟨hp,-⟩:=hv.iG;have HW:=η (fun(W:World) (hW:Grow w W)=>xq (h:=3) W (hp.mono hW.sub));have HO:=η (fun(hm:m.parts.length*24<=140737488355328) (W:World) (hW:Grow w W)=>QV (n:=m.house) W (hp.mono hW.sub) hm);clear hv hp;by_cases h1:m.kind<1
 ·have HE:Hid (aQ m=1):=by show aQ m=1;unfold aQ;rw [if_pos (.inl h1)]
  go_enter Tryz.func125,Tryz.ntmps125;go_wp2;go_ret;exact⟨bC HE.o.symm,gY⟩
 by_cases h2:7<m.kind
 ·have HE:Hid (aQ m=1):=by show aQ m=1;unfold aQ;rw [if_pos (.inr h2)]
  go_enter Tryz.func125,Tryz.ntmps125;go_wp2;go_ret;exact⟨bC HE.o.symm,gY⟩
 by_cases h3:m.deed<0
 ·have HE:Hid (aQ m=3):=by show aQ m=3;unfold aQ;rw [if_neg δ,if_pos (.inl h3)]
  go_enter Tryz.func125,Tryz.ntmps125;go_wp2;go_ret;exact⟨bC HE.o.symm,gY⟩
 by_cases h4:1343<m.deed
 ·have HE:Hid (aQ m=3):=by show aQ m=3;unfold aQ;rw [if_neg δ,if_pos δ]
  go_enter Tryz.func125,Tryz.ntmps125;go_wp2;go_ret;exact⟨bC HE.o.symm,gY⟩
 by_cases h5:m.house<0
 ·have HE:Hid (aQ m=3):=by show aQ m=3;unfold aQ;rw [if_neg δ,if_pos δ]
  go_enter Tryz.func125,Tryz.ntmps125;go_wp2;go_ret;exact⟨bC HE.o.symm,gY⟩
 by_cases h6:2<m.house
 ·have HE:Hid (aQ m=3):=by show aQ m=3;unfold aQ;rw [if_neg δ,if_pos δ]
  go_enter Tryz.func125,Tryz.ntmps125;go_wp2;go_ret;exact⟨bC HE.o.symm,gY⟩
 by_cases h7:1<m.kind
 ·have hb1:(m.kind !=1)=true:=by rw [bne_iff_ne];omega
  by_cases h8:m.parts=[]
  ·have HE:Hid (aQ m=0):=by show aQ m=0;unfold aQ;rw [if_neg δ,if_neg δ,if_pos h7,if_pos h8]
   have hl:m.parts.length=0:=by rw [h8];rfl
   clear h8;generalize m.parts.length=n at*;subst hl;go_enter Tryz.func125,Tryz.ntmps125;go_wp2;go_ret;exact⟨bC HE.o.symm,gY⟩
  ·have HE:Hid (aQ m=5):=by show aQ m=5;unfold aQ;rw [if_neg δ,if_neg δ,if_pos h7,if_neg h8]
   have hl:0<m.parts.length:=List.length_pos_iff.2 h8;clear h8;go_enter Tryz.func125,Tryz.ntmps125;go_wp2;go_ret;exact⟨bC HE.o.symm,gY⟩
 have hb1:(m.kind !=1)=false:=by simp;omega
 have HB:Hid (aQ m=if bD m.parts 3=0 then(if m.parts.all (fun p=>p.h==m.house)=true then 0 else 3) else bD m.parts 3):=by
  show aQ m=_;unfold aQ;rw [if_neg δ,if_neg δ,if_neg h7]
 by_cases h8:bD m.parts 3=0
 ·have hb:(bD m.parts 3 !=0)=false:=by simp [h8]
  have hlen:m.parts.length<=4:=(eP h8).2.1;have ql:=η (HO.o δ);have HE:Hid (aQ m=(if m.parts.all (fun p=>p.h==m.house)=true then 0 else 3)):=by show aQ m=_;rw [HB.o,if_pos h8]
  have HC:=η (eT (l:=m.parts) (n:=m.house));have QW:Hid ((jF m.parts m.house).length<=m.parts.length):=η (by unfold jF;exact List.length_filter_le _ _);clear h8 HB hlen;generalize bD m.parts 3=we at*;go_enter Tryz.func125,Tryz.ntmps125;go_wp2_with fail
  refine(HW.o _ ((Grow.refl _).alloc _)).mono ?_;rintro e w1 ⟨rfl,dI⟩;have R3:=η (aj (aF w (.cells #[ι m.kind,ι m.deed,ι m.house,ς ap m.parts.length cp] 85)) dI);have HB1:=η (((Grow.refl w).alloc (.cells #[ι m.kind,ι m.deed,ι m.house,ς ap m.parts.length cp] 85)).trans dI);have z3:w.heap.size<w1:=(γ R3.o);clear dI;have HS:Hid (∀W,Grow w1 W->W.cell? ⟨w.heap.size,2,none⟩=some (ι m.house)/\W.cell? ⟨w.heap.size,3,none⟩=some (ς ap m.parts.length cp)):=fun W hW=>by
   obtain⟨c0,c1,c2,c3⟩:=cells4 (aj R3.o hW);exact⟨c2,c3⟩
  have nC:=η (fun(W:World) (hW:Grow w1 W)=>ql.o W (HB1.o.trans hW));by_cases he:(jF m.parts m.house).length=m.parts.length
  ·have HE2:Hid (aQ m=0):=by show aQ m=0;rw [HE.o,if_pos (HC.o.1 he)]
   have hb3:(((jF m.parts m.house).length:Int) !=(m.parts.length:Int))=false:=by simp [he]
   clear he HC HE;go_wp2;go_region_held3 (fun w'=>w'.cell? ⟨w.heap.size,2,none⟩=some (ι m.house)/\w'.cell? ⟨w.heap.size,3,none⟩=some (ς ap m.parts.length cp)) (first|assumption|exact HS.o _ Ce) (first|(go_at_call 134;refine(nC.o _ Ce).mono ?_;rintro e w4 ⟨v4,rfl,pO,hb4⟩;obtain⟨a4,k4,rfl⟩:=pO.form;clear pO))
   go_wp2;go_ret;exact⟨bC HE2.o.symm,HB1.o.trans Ce⟩
  ·have HE2:Hid (aQ m=3):=by show aQ m=3;rw [HE.o,if_neg (fun h=>he (HC.o.2 h))]
   have hb3:(((jF m.parts m.house).length:Int) !=(m.parts.length:Int))=true:=by rw [bne_iff_ne];omega
   clear he HC HE;go_wp2;go_region_held3 (fun w'=>w'.cell? ⟨w.heap.size,2,none⟩=some (ι m.house)/\w'.cell? ⟨w.heap.size,3,none⟩=some (ς ap m.parts.length cp)) (first|assumption|exact HS.o _ Ce) (first|(go_at_call 134;refine(nC.o _ Ce).mono ?_;rintro e w4 ⟨v4,rfl,pO,hb4⟩;obtain⟨a4,k4,rfl⟩:=pO.form;clear pO))
   go_wp2;go_ret;exact⟨bC HE2.o.symm,HB1.o.trans Ce⟩
 ·have hb:(bD m.parts 3 !=0)=true:=by simp [h8]
  have HE:Hid (aQ m=bD m.parts 3):=by show aQ m=_;rw [HB.o,if_neg h8]
  clear h8 HB;generalize bD m.parts 3=we at*;go_enter Tryz.func125,Tryz.ntmps125;go_wp2_with fail
  refine(HW.o _ ((Grow.refl _).alloc _)).mono ?_;rintro e w1 ⟨rfl,dI⟩;have HB1:=η (((Grow.refl w).alloc (.cells #[ι m.kind,ι m.deed,ι m.house,ς ap m.parts.length cp] 85)).trans dI);clear dI;go_wp2;go_ret;exact⟨bC HE.o.symm,HB1.o⟩
theorem fD:(Tryz.prog.info? 85).map (·.size)=some 4:=by kernel_rfl
theorem j_ (c:CM):Of Ty.ms c (.agg #[ι 0,ι 0,ι 0,()]) ms0:=⟨_,rfl,_,rfl,fP,fP,fP,Sl.nil _ _⟩
theorem LP {w:World} {B:Nat} {a b c d:Value} {t:TypeId} (h:w.heap[B]? =some (.cells #[a,b,c,d] t (0,0))) (u:Value):(w.setCell ⟨B,3,none⟩ u).heap[B]? =some (.cells #[a,b,c,u] t (0,0)):=by
 simp only [World.setCell,Array.getElem?_modify,h];simp
structure VY (w wc:World) (B6 B7:Nat) (t:RS) (k d h:Int) (vp:Value) (ps:List Pt):Prop where
 res:wc.heap[w.heap.size]? =some (.cells #[ι 0,ι 0,ι 0,()] 85 (0,0))
 msg:wc.heap[B7]? =some (.cells #[ι k,ι d,ι h,vp] 85 (0,0))
 YX:TQ wc B6 w.cell? t
 own:wc.ownsRow (w.heap.size+1) 111 3 vp ps.length (ps.flatMap Pt.cells)
 grow:Grow w wc
 TR:w.heap.size<B6
 sM:w.heap.size<B7
 ne:B6≠B7
 Jb:∀q,vp.ownBlock=some q->q≠B6/\q≠B7
theorem VY.next {w wc w':World} {B6 B7:Nat} {t t':RS} {k d h:Int} {vp:Value} {ps:List Pt} (r:VY w wc B6 B7 t k d h vp ps) (hr:TQ w' B6 w.cell? t') (hg:wc.grownBy w' (some B6)):VY w w' B6 B7 t' k d h vp ps where
 res:=aH r.res hg (by have:=r.TR;simp;omega)
 msg:=aH r.msg hg (by have:=r.ne;simp;omega)
 YX:=hr
 own:=r.own.kept hg (by
  cases e:vp.ownBlock with
  |none=>exact .inl rfl
  |some q=>exact .inr (by have:=(r.Jb q e).1;simp;omega))
 grow:=r.grow.grown hg (fun q hq=>by have:=r.TR;simp at hq;omega)
 TR:=r.TR
 sM:=r.sM
 ne:=r.ne
 Jb:=r.Jb
theorem VY.part {w wc w1 w':World} {B6 B7:Nat} {t:RS} {k d h:Int} {vp:Value} {ps ps':List Pt} {a':Option Addr} {n c':Nat} (r:VY w wc B6 B7 t k d h vp ps) (hG:Grow wc w1) (ho:w'.ownsRow (w.heap.size+1) 111 3 (ς a' n c') ps'.length (ps'.flatMap Pt.cells)) (hg:w1.grownBy w' vp.ownBlock)
  (hb:(Value.slice a' n c').ownBlock=vp.ownBlock∨∃g,(Value.slice a' n c').ownBlock=some g/\w1.heap.size<=g):VY w (w'.setCell ⟨B7,3,none⟩ (ς a' n c')) B6 B7 t k d h (ς a' n c') ps':=by
 have hlt:∀{B:Nat} {o:Obj},wc.heap[B]? =some o->B<wc.heap.size:=fun h=>(γ h);obtain⟨ra,rc,h1,h2⟩:=r.YX;have z6:=hlt h1;have z7:=hlt r.msg;have zg:=hG.size;have I1:some B6≠vp.ownBlock:=fun e=>(r.Jb B6 e.symm).1 rfl;have I2:some B7≠vp.ownBlock:=fun e=>(r.Jb B7 e.symm).2 rfl;have I3:some w.heap.size≠vp.ownBlock:=fun e=>by have:=(r.own.lt _ e.symm).1;omega
 have A0h:=r.sM;have hne:=r.ne;have hB:∀q,q≠B7->(w'.setCell ⟨B7,3,none⟩ (ς a' n c')).heap[q]? =w'.heap[q]?:=fun q hq=>Below.heap_setCell _ _ _ _ (fun e=>hq e);have hdis:∀q,(Value.slice a' n c').ownBlock=some q->q≠B6/\q≠B7:=fun q hq=>by
  rcases hb with e|⟨g,e,hge⟩
  ·exact r.Jb q (e.symm.trans hq)
  ·rw [e] at hq
   obtain rfl:=Option.some.inj hq;constructor<;>omega
 refine⟨?_,?_,⟨ra,rc,?_,h2⟩,?_,?_,r.TR,r.sM,r.ne,hdis⟩
 ·rw [hB _ δ];exact aH (aj r.res hG) hg I3
 ·exact LP (aH (aj r.msg hG) hg I2) _
 ·rw [hB _ hne];exact aH (aj h1 hG) hg I1
 ·exact owns_block ho fun q hq=>hB q (hdis q hq).2
 ·exact((r.grow.trans hG).grown hg (fun q hq=>by have:=(r.own.lt q hq).1;omega)).setCell (by simp;omega) _
theorem LQ {b:List UInt8} {e x y s:Nat} (hle:b.length=e+2) (hx:b[e]' δ=UInt8.ofNat x) (hy:b[e+1]' δ=UInt8.ofNat y) (hx2:x<256) (hy2:y<256) (hs:qW (b.take e)=s):tZ b=decide (s=256*x+y):=by
 have e1:b.getD e 0=UInt8.ofNat x:=by rw [List.getD_eq_getElem?_getD,List.getElem?_eq_getElem δ,hx];rfl
 have e2:b.getD (e+1) 0=UInt8.ofNat y:=by rw [List.getD_eq_getElem?_getD,List.getElem?_eq_getElem δ,hy];rfl
 unfold tZ;rw [hle,show e+2 - 2=e by omega,show e+2 - 1=e+1 by omega,e1,e2,hs,lH hx2,lH hy2]
theorem eV (s:RS):dR 3 s=([(bF s).1,(bF (bF s).2).1,(bF (bF (bF s).2).2).1],(bF (bF (bF s).2).2).2):=rfl
theorem YZ {b:List UInt8} (h3:¬b.length<3) (hs:tZ b=true) {s s3:RS} {d h n:Int} (e0:s=((b.take (b.length - 2)).drop 1,0)) (e1:dR 3 s=([d,h,n],s3)):
  readB b=if s3.2=0/\(n<0∨4<n) then(ms0,5) else uV ⟨((b.getD 0 0).toNat:Nat),d,h,pairs h (dR (2*n.toNat) s3).1⟩ (dR (2*n.toNat) s3).2:=by
 rw [YW,if_neg h3,if_pos hs];unfold QU;rw [<-e0,e1];rfl
theorem TS {s:RS} (h:(bF s).2.2≠0):(bF s).1=0:=by
 unfold bF at h ⊢;split
 ·rfl
 ·split
  ·rfl
  ·rename_i h1 h2
   rw [if_neg h1,if_neg h2] at h;exact absurd rfl h
theorem I64.of_next (s:RS):I64 (bF s).1:=by
 have:=BK s;exact iW δ δ
theorem LU {h:Int} (hh:I64 h) (s:RS):∀k,wH (pairs h (dR (2*k) s).1)
 |0=>fun p hp=>by simp [dR,pairs] at hp
 |k+1=>fun p hp=>by
  rw [(Eh h k s).1] at hp;rcases List.mem_append.1 hp with hp|hp
  ·exact LU hh s k p hp
  ·simp only [List.mem_singleton] at hp
   subst hp;exact⟨hh,I64.of_next _,I64.of_next _⟩
theorem TT (h:Int) (k:Nat) (s:RS):(pairs h (dR (2*k) s).1).length=k:=(xB k (Af _ _)).2
theorem TU {v:Value} {b:List UInt8} (w:World) (hv:Sz w.cell? v b):
  Calls Tryz.prog 80 #[v] w fun e w'=>∃v',e=.returned (.tuple #[v',ι (readB b).2])/\Of Ty.ms (ov (fun _=>none) w w') v' (readB b).1/\Grow w w':=by
 have HV:=η hv;obtain⟨a,cap,rfl,h1,h2,-,hel⟩:=hv;unfold maxLen at h2;by_cases hl3:b.length<3
 ·have HE:Hid (readB b=(ms0,8)):=by show readB b=_;unfold readB;rw [if_pos hl3]
  have R2:=η (aF w (.cells #[ι 0,ι 0,ι 0,()] 85));have G1:=η ((Grow.refl w).alloc (.cells #[ι 0,ι 0,ι 0,()] 85));clear hel;go_enter Tryz.func80,Tryz.ntmps80;go_wp2_with (first|(refine wpList_store_row rfl (.tmp 2) (.tmp 12) rfl rfl rfl R2.o fD rfl rfl ?_))
  intro w7 r7 g7;obtain⟨p0,p1,p2,p3⟩:=cells4 r7;go_wp2;refine bodyPost_ret (v:=.tuple #[.agg #[ι 0,ι 0,ι 0,()],ι 8]) (by simp [results,Tryz.results80,go_sem,p0,p1,p2,p3]) rfl ?_;rw [HE.o];exact⟨_,rfl,j_ _,G1.o.grown g7 (fun q hq=>by simp at hq;omega)⟩
 have Yc:=η (fun(W:World) (hW:Grow w W)=>LG W ((HV.o.take' (b.length - 2) δ).mono hW.sub));obtain⟨bb,o,rfl,c0⟩:=byteAt hel 0 δ;obtain⟨bb',o',he,cx⟩:=byteAt hel (b.length - 2) δ;obtain⟨rfl,rfl⟩:bb=bb'/\o=o':=by simpa using he
 obtain⟨bb',o',he',cy⟩:=byteAt hel (b.length - 1) δ;obtain⟨rfl,rfl⟩:bb=bb'/\o=o':=by simpa using he'
 clear he he' hel;obtain⟨e,hle⟩:∃e,b.length=e+2:=⟨b.length - 2,δ⟩;obtain⟨x,hx⟩:∃x,x=(b[b.length - 2]' δ).toNat:=⟨_,rfl⟩;obtain⟨y,hy⟩:∃x,x=(b[b.length - 1]' δ).toNat:=⟨_,rfl⟩;obtain⟨z,hz⟩:∃x,x=(b[0]' δ).toNat:=⟨_,rfl⟩;obtain⟨s,hs⟩:∃s,s=qW (b.take (b.length - 2)):=⟨_,rfl⟩;have hx2:x<256:=by rw [hx];exact UInt8.toNat_lt _
 have hy2:y<256:=by rw [hy];exact UInt8.toNat_lt _
 have hz2:z<256:=by rw [hz];exact UInt8.toNat_lt _
 have hs1:s<65521:=by rw [hs];exact yJ _
 have hok:tZ b=decide (s=256*x+y):=by
  refine LQ (e:=e) hle ?_ ?_ hx2 hy2 (by rw [hs];congr 2;omega)
  ·rw [hx];simp [hle]
  ·rw [hy];simp [hle]
 have HZ:Hid (((b.getD 0 0).toNat:Nat)=z):=η (by rw [hz,List.getD_eq_getElem?_getD,List.getElem?_eq_getElem δ];rfl);rw [<-hx] at cx;rw [<-hy] at cy;rw [<-hz] at c0;rw [<-hs] at Yc;rw [show b.length - 2=e by omega] at cx Yc;rw [show b.length - 1=e+1 by omega] at cy;have QX:=η hl3;have HSL:=η (HV.o.take' (b.length - 2) δ);rw [show b.length - 2=e by omega] at HSL;have DQ:Hid (b.take (b.length - 2)=b.take e):=η (by congr 1;omega);have DS:Hid ((b.take e).length=e):=η (by rw [List.length_take];omega);rw [hle] at hl3 h1 ⊢;clear hx hy hz hs hle;have hc1:¬cap=1:=by omega
 have hsx:(x:Int)=(s:Int)/256/\(y:Int)=(s:Int) % 256↔s=256*x+y:=by omega
 have qp:=η hok;clear hok;by_cases ht:s=256*x+y
 ·have oS:=η (show tZ b=true by rw [qp.o];exact decide_eq_true ht)
  have hbx:((x:Int) !=(s:Int)/256)=false:=by have:=(hsx.2 ht).1;simp [this]
  have hby:((y:Int) !=(s:Int) % 256)=false:=by have:=(hsx.2 ht).2;simp [this]
  clear hsx qp ht;go_enter Tryz.func80,Tryz.ntmps80;go_wp2_with fail
  refine(Yc.o _ ((Grow.refl _).alloc _)).mono ?_;rintro e0 w1 ⟨rfl,hb1⟩;have R2:=η (aj (aF w (.cells #[ι 0,ι 0,ι 0,()] 85)) hb1);have G1:=η (((Grow.refl w).alloc (.cells #[ι 0,ι 0,ι 0,()] 85)).trans hb1);have Aa:=η c0;replace c0:=G1.o.sub _ _ c0;replace cx:=G1.o.sub _ _ cx;replace cy:=G1.o.sub _ _ cy;have z2:w.heap.size<w1:=(γ R2.o);have Z2:=η z2;clear hb1;go_wp2_with fail
  obtain⟨wa,cO⟩:∃x:World,x=w1.alloc (.cells #[ς (some ⟨bb,o+1,none⟩) (e - 1) (cap - 1),ι 0] 161):=⟨_,rfl⟩;have RA:Hid (TQ wa w1.heap.size w.cell? ((b.take e).drop 1,0)):=η (by
   rw [cO];have h9:=HSL.o.drop 1 δ;have e9:((b.take e).drop 1).length=e - 1:=by rw [List.length_drop,DS.o]
   refine⟨some ⟨bb,o+1,none⟩,cap - 1,?_,?_⟩
   ·rw [show(List.drop 1 (List.take e b),(0:Int)).1.length=e - 1 from e9];exact aF _ _
   ·rw [show(List.drop 1 (List.take e b),(0:Int)).1.length=e - 1 from e9];simpa [Ty.byte] using h9)
  have GA:Hid (Grow w wa):=η (by rw [cO];exact G1.o.alloc _);have I6:Hid (wa.heap[w.heap.size]? =some (.cells #[ι 0,ι 0,ι 0,()] 85 (0,0))):=η (by rw [cO];exact aB R2.o _);rw [<-cO];clear cO;obtain⟨B6,Jc⟩:∃B,B=w1.heap.size:=⟨_,rfl⟩;rw [<-Jc] at RA ⊢;have H6:Hid (w.heap.size<B6):=η (by rw [Jc];exact Z2.o);clear Jc c0 cx cy hbx hby z2 Z2 R2;go_cut [7] from 44 (fun s7 wc=>∃B7,s7=.pointer (some ⟨B7,0,none⟩)/\VY w wc B6 B7 (bF (bF ((b.take e).drop 1,0)).2).2 z (bF ((b.take e).drop 1,0)).1 (bF (bF ((b.take e).drop 1,0)).2).1 (ς none 0 0) [])
  case first=>
   generalize ((b.take e).drop 1,(0:Int))=t0 at*;have hzw:IntKind.i64.wrap (z:Int)=(z:Int):=IntWalk.i64_in _ δ;have he0:(0:Int)<(e:Int)+2:=by omega
   have HB:Hid (∀a u,w.cell? a=some u->a.block≠B6):=fun a u h9=>by have:=World.block_lt_of_cell? w a h9;have:=H6.o;omega
   refine bf (fun w'=>w'.cell? ⟨bb,o,none⟩=some (.int .u8 z)) 10 κ ?_;obtain⟨wd,hWd⟩:∃x:World,x=wa.drew:=⟨_,rfl⟩;rw [<-hWd];have GD:Grow wa wd:=by rw [hWd];exact(Grow.refl _).drew
   have zD:wa.heap.size=wd.heap.size:=by rw [hWd];rfl
   have ZD:=η zD;clear hWd zD;refine ni [0,1,2,3,4,6] 13 κ (fun _ _ _ _ _ h=>h) ((GA.o.trans GD).sub _ _ Aa.o) ?_;repeat (refine tNm (v:=?_) rfl ρ ?_ ?_;rotate_left;(· (intro w' hSw;(try dsimp only at hSw);go_simp<;>with_reducible rfl));try simp only [aK])
   refine ny ?_;refine bP 5 9 κ rfl rfl ?_ ?_
   ·intro K HK
    try simp only [aV]
    go_simp;go_at_call 124
    refine(lJ (c:=w.cell?) (RA.o.grow GD) ((GA.o.trans GD)).sub).mono ?_;rintro ec1 c1 ⟨rfl,hr,hg⟩;have Y9:=η ((GA.o.trans GD).grown hg (fun q hq=>by have:=H6.o;simp at hq;omega));have bB:=η (aH (aj I6.o GD) hg (by have:=H6.o;intro e9;have:=Option.some.inj e9;omega));have VZ:=η hr;clear hr hg;refine HK.o _ _ ⟨fun _=>Y9.o.sub _ _ Aa.o,?_⟩;clear HK K;try simp only [aK]
    refine bP 7 9 κ rfl rfl ?_ ?_
    ·intro K HK
     try simp only [aV]
     go_simp;go_at_call 124
     refine(lJ (c:=w.cell?) VZ.o (Y9.o).sub).mono ?_;rintro ec2 c2 ⟨rfl,hr,hg⟩;have Y_:=η (Y9.o.grown hg (fun q hq=>by have:=H6.o;simp at hq;omega));have bE:=η (aH bB.o hg (by have:=H6.o;intro e9;have:=Option.some.inj e9;omega));have QY:=η hr;clear hr hg;refine HK.o _ _ ⟨fun _=>Y_.o.sub _ _ Aa.o,?_⟩;clear HK K;try simp only [aK]
     refine bP 8 9 κ rfl rfl ?_ ?_
     ·intro K HK
      try simp only [aV]
      go_simp;refine HK.o _ _ ⟨fun _=>Y_.o.sub _ _ Aa.o,?_⟩;clear HK K;try simp only [aK]
      refine bO 9 κ rfl ?_;intro K HK;try simp only [aV]
      go_simp;obtain⟨c3,hc3⟩:∃x:World,x=c2.alloc (.cells #[ι 0,ι 0,ι 0,()] 85):=⟨_,rfl⟩;obtain⟨B7,yL⟩:∃B,B=c2.heap.size:=⟨_,rfl⟩;rw [<-hc3,<-yL];have sP:Hid (Grow w c3):=η (by rw [hc3];exact(Y_.o).alloc _);have sR:Hid (c3.heap[w.heap.size]? =some (.cells #[ι 0,ι 0,ι 0,()] 85 (0,0))):=η (by rw [hc3];exact aB bE.o _);have sT:Hid (c3.heap[B7]? =some (.cells #[ι 0,ι 0,ι 0,()] 85 (0,0))):=η (by rw [hc3,yL];exact aF _ _);have sX:Hid (TQ c3 B6 w.cell? (bF (bF t0).2).2):=η (by rw [hc3];exact QY.o.grow ((Grow.refl _).alloc _));have og:Hid (B6≠B7/\w.heap.size<B7):=η (by obtain⟨ra,rc,rh,-⟩:=QY.o;have:=(γ rh);have:=H6.o;omega);clear hc3 yL;refine HK.o _ _ ⟨fun _=>sP.o.sub _ _ Aa.o,?_⟩;clear HK K;try simp only [aK]
      refine bO 10 κ rfl ?_;intro K HK;refine aC rfl ?_;try simp only [aV]
      refine wp_store_row (.tmp 7) (.tmp 52) rfl rfl rfl sT.o fD rfl rfl ?_;intro wz rz gz;refine HK.o _ _ ⟨fun h=>absurd rfl h,?_⟩;clear HK K;try simp only [aK]
      refine aO κ ?_;go_wp2;go_meet
      case rel=>
       refine⟨B7,rfl,aH sR.o gz (by have:=og.o.2;intro e9;have:=Option.some.inj e9;omega),rz,?_,World.ownsRow_nil _ _ _ _,sP.o.grown gz (fun q hq=>by have:=og.o.2;simp at hq;omega),H6.o,og.o.2,og.o.1,fun q hq=>by simp [Value.ownBlock] at hq⟩;obtain⟨ra,rc,rh,rl⟩:=sX.o;exact⟨ra,rc,aH rh gz (by have:=og.o.1;intro e9;have:=Option.some.inj e9;omega),rl⟩
     ·intro K HK
      try simp only [aV]
      go_simp;obtain⟨c4,hc4⟩:∃x:World,x=c2.alloc (.cells #[ι 0,ι 0,ι 0,()] 85):=⟨_,rfl⟩;obtain⟨B7,yL⟩:∃B,B=c2.heap.size:=⟨_,rfl⟩;rw [<-hc4,<-yL];have eW:Hid (Grow w c4):=η (by rw [hc4];exact(Y_.o).alloc _);have sY:Hid (c4.heap[w.heap.size]? =some (.cells #[ι 0,ι 0,ι 0,()] 85 (0,0))):=η (by rw [hc4];exact aB bE.o _);have s_:Hid (c4.heap[B7]? =some (.cells #[ι 0,ι 0,ι 0,()] 85 (0,0))):=η (by rw [hc4,yL];exact aF _ _);have tA:Hid (TQ c4 B6 w.cell? (bF (bF t0).2).2):=η (by rw [hc4];exact QY.o.grow ((Grow.refl _).alloc _));have og:Hid (B6≠B7/\w.heap.size<B7):=η (by obtain⟨ra,rc,rh,-⟩:=QY.o;have:=(γ rh);have:=H6.o;omega);clear hc4 yL;refine HK.o _ _ ⟨fun _=>eW.o.sub _ _ Aa.o,?_⟩;clear HK K;try simp only [aK]
      refine bO 8 κ rfl ?_;intro K HK;try simp only [aV]
      go_simp;refine HK.o _ _ ⟨fun _=>eW.o.sub _ _ Aa.o,?_⟩;clear HK K;try simp only [aK]
      refine bO 10 κ rfl ?_;intro K HK;refine aC rfl ?_;try simp only [aV]
      refine wp_store_row (.tmp 7) (.tmp 52) rfl rfl rfl s_.o fD rfl rfl ?_;intro wz rz gz;refine HK.o _ _ ⟨fun h=>absurd rfl h,?_⟩;clear HK K;try simp only [aK]
      refine aO κ ?_;go_wp2;go_meet
      case rel=>
       refine⟨B7,rfl,aH sY.o gz (by have:=og.o.2;intro e9;have:=Option.some.inj e9;omega),rz,?_,World.ownsRow_nil _ _ _ _,eW.o.grown gz (fun q hq=>by have:=og.o.2;simp at hq;omega),H6.o,og.o.2,og.o.1,fun q hq=>by simp [Value.ownBlock] at hq⟩;obtain⟨ra,rc,rh,rl⟩:=tA.o;exact⟨ra,rc,aH rh gz (by have:=og.o.1;intro e9;have:=Option.some.inj e9;omega),rl⟩
    ·intro K HK
     try simp only [aV]
     go_simp;obtain⟨c5,hc5⟩:∃x:World,x=c1.alloc (.cells #[ι 0,ι 0,ι 0,()] 85):=⟨_,rfl⟩;obtain⟨B7,yL⟩:∃B,B=c1.heap.size:=⟨_,rfl⟩;rw [<-hc5,<-yL];have eZ:Hid (Grow w c5):=η (by rw [hc5];exact(Y9.o).alloc _);have tB:Hid (c5.heap[w.heap.size]? =some (.cells #[ι 0,ι 0,ι 0,()] 85 (0,0))):=η (by rw [hc5];exact aB bB.o _);have tD:Hid (c5.heap[B7]? =some (.cells #[ι 0,ι 0,ι 0,()] 85 (0,0))):=η (by rw [hc5,yL];exact aF _ _);have tE:Hid (TQ c5 B6 w.cell? (bF t0).2):=η (by rw [hc5];exact VZ.o.grow ((Grow.refl _).alloc _));have og:Hid (B6≠B7/\w.heap.size<B7):=η (by obtain⟨ra,rc,rh,-⟩:=VZ.o;have:=(γ rh);have:=H6.o;omega);clear hc5 yL;refine HK.o _ _ ⟨fun _=>eZ.o.sub _ _ Aa.o,?_⟩;clear HK K;try simp only [aK]
     refine bO 7 κ rfl ?_;intro K HK;try simp only [aV]
     go_simp;go_at_call 124
     refine(lJ (c:=w.cell?) tE.o (eZ.o).sub).mono ?_;rintro ec6 c6 ⟨rfl,hr,hg⟩;have e_:=η (eZ.o.grown hg (fun q hq=>by have:=H6.o;simp at hq;omega));have tF:=η (aH tB.o hg (by have:=H6.o;intro e9;have:=Option.some.inj e9;omega));have tG:=η (aH tD.o hg (by have:=og.o.1;intro e9;have:=Option.some.inj e9;omega));have tI:=η hr;clear hr hg;refine HK.o _ _ ⟨fun _=>e_.o.sub _ _ Aa.o,?_⟩;clear HK K;try simp only [aK]
     refine bO 8 κ rfl ?_;intro K HK;try simp only [aV]
     go_simp;refine HK.o _ _ ⟨fun _=>e_.o.sub _ _ Aa.o,?_⟩;clear HK K;try simp only [aK]
     refine bO 10 κ rfl ?_;intro K HK;refine aC rfl ?_;try simp only [aV]
     refine wp_store_row (.tmp 7) (.tmp 52) rfl rfl rfl tG.o fD rfl rfl ?_;intro wz rz gz;refine HK.o _ _ ⟨fun h=>absurd rfl h,?_⟩;clear HK K;try simp only [aK]
     refine aO κ ?_;go_wp2;go_meet
     case rel=>
      refine⟨B7,rfl,aH tF.o gz (by have:=og.o.2;intro e9;have:=Option.some.inj e9;omega),rz,?_,World.ownsRow_nil _ _ _ _,e_.o.grown gz (fun q hq=>by have:=og.o.2;simp at hq;omega),H6.o,og.o.2,og.o.1,fun q hq=>by simp [Value.ownBlock] at hq⟩;obtain⟨ra,rc,rh,rl⟩:=tI.o;exact⟨ra,rc,aH rh gz (by have:=og.o.1;intro e9;have:=Option.some.inj e9;omega),rl⟩
   ·intro K HK
    try simp only [aV]
    go_simp;obtain⟨c7,oT⟩:∃x:World,x=wd.alloc (.cells #[ι 0,ι 0,ι 0,()] 85):=⟨_,rfl⟩;obtain⟨B7,yL⟩:∃B,B=wd.heap.size:=⟨_,rfl⟩;rw [<-oT,<-yL];have fI:Hid (Grow w c7):=η (by rw [oT];exact((GA.o.trans GD)).alloc _);have tL:Hid (c7.heap[w.heap.size]? =some (.cells #[ι 0,ι 0,ι 0,()] 85 (0,0))):=η (by rw [oT];exact aB (aj I6.o GD) _);have tM:Hid (c7.heap[B7]? =some (.cells #[ι 0,ι 0,ι 0,()] 85 (0,0))):=η (by rw [oT,yL];exact aF _ _);have tO:Hid (TQ c7 B6 w.cell? t0):=η (by rw [oT];exact(RA.o.grow GD).grow ((Grow.refl _).alloc _));have og:Hid (B6≠B7/\w.heap.size<B7):=η (by obtain⟨ra,rc,rh,-⟩:=(RA.o.grow GD);have:=(γ rh);have:=H6.o;omega);clear oT yL;refine HK.o _ _ ⟨fun _=>fI.o.sub _ _ Aa.o,?_⟩;clear HK K;try simp only [aK]
    refine bO 5 κ rfl ?_;intro K HK;try simp only [aV]
    go_simp;go_at_call 124
    refine(lJ (c:=w.cell?) tO.o (fI.o).sub).mono ?_;rintro ec8 c8 ⟨rfl,hr,hg⟩;have fL:=η (fI.o.grown hg (fun q hq=>by have:=H6.o;simp at hq;omega));have tP:=η (aH tL.o hg (by have:=H6.o;intro e9;have:=Option.some.inj e9;omega));have tQ:=η (aH tM.o hg (by have:=og.o.1;intro e9;have:=Option.some.inj e9;omega));have tR:=η hr;clear hr hg;refine HK.o _ _ ⟨fun _=>fL.o.sub _ _ Aa.o,?_⟩;clear HK K;try simp only [aK]
    refine bO 7 κ rfl ?_;intro K HK;try simp only [aV]
    go_simp;go_at_call 124
    refine(lJ (c:=w.cell?) tR.o (fL.o).sub).mono ?_;rintro ec9 c9 ⟨rfl,hr,hg⟩;have fN:=η (fL.o.grown hg (fun q hq=>by have:=H6.o;simp at hq;omega));have tS:=η (aH tP.o hg (by have:=H6.o;intro e9;have:=Option.some.inj e9;omega));have tT:=η (aH tQ.o hg (by have:=og.o.1;intro e9;have:=Option.some.inj e9;omega));have tU:=η hr;clear hr hg;refine HK.o _ _ ⟨fun _=>fN.o.sub _ _ Aa.o,?_⟩;clear HK K;try simp only [aK]
    refine bO 8 κ rfl ?_;intro K HK;try simp only [aV]
    go_simp;refine HK.o _ _ ⟨fun _=>fN.o.sub _ _ Aa.o,?_⟩;clear HK K;try simp only [aK]
    refine bO 10 κ rfl ?_;intro K HK;refine aC rfl ?_;try simp only [aV]
    refine wp_store_row (.tmp 7) (.tmp 52) rfl rfl rfl tT.o fD rfl rfl ?_;intro wz rz gz;refine HK.o _ _ ⟨fun h=>absurd rfl h,?_⟩;clear HK K;try simp only [aK]
    refine aO κ ?_;go_wp2;go_meet
    case rel=>
     refine⟨B7,rfl,aH tS.o gz (by have:=og.o.2;intro e9;have:=Option.some.inj e9;omega),rz,?_,World.ownsRow_nil _ _ _ _,fN.o.grown gz (fun q hq=>by have:=og.o.2;simp at hq;omega),H6.o,og.o.2,og.o.1,fun q hq=>by simp [Value.ownBlock] at hq⟩;obtain⟨ra,rc,rh,rl⟩:=tU.o;exact⟨ra,rc,aH rh gz (by have:=og.o.1;intro e9;have:=Option.some.inj e9;omega),rl⟩
  case rest=>
  obtain⟨B7,rfl,hst⟩:=hcut;have HST:=η hst;have J8:Hid (readB b=if(bF (bF (bF ((b.take e).drop 1,0)).2).2).2.2=0/\((bF (bF (bF ((b.take e).drop 1,0)).2).2).1<0∨4<(bF (bF (bF ((b.take e).drop 1,0)).2).2).1) then(ms0,5)
   else uV ⟨z,(bF ((b.take e).drop 1,0)).1,(bF (bF ((b.take e).drop 1,0)).2).1,pairs (bF (bF ((b.take e).drop 1,0)).2).1 (dR (2*(bF (bF (bF ((b.take e).drop 1,0)).2).2).1.toNat) (bF (bF (bF ((b.take e).drop 1,0)).2).2).2).1⟩ (dR (2*(bF (bF (bF ((b.take e).drop 1,0)).2).2).1.toNat) (bF (bF (bF ((b.take e).drop 1,0)).2).2).2).2):=η (by
   rw [YZ QX.o oS.o (s:=((b.take e).drop 1,0)) (by rw [DQ.o]) (eV _),HZ.o])
  have fR:=η (I64.of_next ((b.take e).drop 1,0));have HIH:=η (I64.of_next (bF ((b.take e).drop 1,0)).2);have HIZ:Hid (I64 (z:Int)):=η (iW δ δ);clear hst RA GA I6;generalize (bF (bF ((b.take e).drop 1,0)).2).1=h at*;generalize (bF (bF ((b.take e).drop 1,0)).2).2=t2 at*;generalize (bF ((b.take e).drop 1,0)).1=d at*;go_wp2_with fail
  refine(lJ (c:=w.cell?) HST.o.YX HST.o.grow.sub).mono ?_;rintro e9 w9 ⟨rfl,hr,hg⟩;have H9:=η (HST.o.next hr hg);have hnz:=TS (s:=t2);have hnb:=BK t2;clear hr hg;generalize (bF t2).1=n at*;generalize (bF t2).2=s3 at*;obtain⟨ra,rc,hrow,-⟩:=H9.o.YX;obtain⟨q0,q1⟩:=cells2 hrow;have z6:B6<w9.heap.size:=(γ hrow);have R2:=η H9.o.res;have G9:=η H9.o.grow;clear hrow;by_cases he3:s3.2=0
  ·have hbe:(s3.2==0)=true:=by simp [he3]
   by_cases hn0:n<0
   ·have HE:Hid (readB b=(ms0,5)):=η (by rw [J8.o,if_pos ⟨he3,.inl hn0⟩])
    clear he3 hnz;go_wp2_with (first|(refine wpList_store_row rfl (.tmp 2) (.tmp 68) rfl rfl rfl R2.o fD rfl rfl ?_))
    intro w7 r7 g7;obtain⟨p0,p1,p2,p3⟩:=cells4 r7;go_wp2;refine bodyPost_ret (v:=.tuple #[.agg #[ι 0,ι 0,ι 0,()],ι 5]) (by simp [results,Tryz.results80,go_sem,p0,p1,p2,p3]) rfl ?_;rw [HE.o];exact⟨_,rfl,j_ _,G9.o.grown g7 (fun q hq=>by simp at hq;omega)⟩
   by_cases hn4:4<n
   ·have HE:Hid (readB b=(ms0,5)):=η (by rw [J8.o,if_pos ⟨he3,.inr hn4⟩])
    clear he3 hnz;go_wp2_with (first|(refine wpList_store_row rfl (.tmp 2) (.tmp 68) rfl rfl rfl R2.o fD rfl rfl ?_))
    intro w7 r7 g7;obtain⟨p0,p1,p2,p3⟩:=cells4 r7;go_wp2;refine bodyPost_ret (v:=.tuple #[.agg #[ι 0,ι 0,ι 0,()],ι 5]) (by simp [results,Tryz.results80,go_sem,p0,p1,p2,p3]) rfl ?_;rw [HE.o];exact⟨_,rfl,j_ _,G9.o.grown g7 (fun q hq=>by simp at hq;omega)⟩
   obtain⟨N,rfl⟩:∃N:Nat,n=N:=⟨n.toNat,δ⟩;have fS:Hid (readB b=uV ⟨z,d,h,pairs h (dR (2*N) s3).1⟩ (dR (2*N) s3).2):=η (by rw [J8.o,if_neg δ,Int.toNat_natCast]);clear he3 hnz hnb J8;go_wp2;go_loopw [70] (fun i wr=>∃(k:Nat) (vp:Value),k<=N/\i=ι k/\VY w wr B6 B7 (dR (2*k) s3).2 z d h vp (pairs h (dR (2*k) s3).1)) (fun i _=>N - (intOf i).toNat)
   case atStart=>exact⟨0,_,δ,rfl,H9.o⟩
   case round=>
    obtain⟨k,vp,hk',rfl,hr⟩:=hrel;obtain⟨ap,cp,rfl⟩:=aY hr.own;have HR:=η hr;clear q0 q1;by_cases hlt:k<N
    ·have tW:=η (Eh h k s3)
     have Yd:=η (TT h k s3);have HI1:=η (I64.of_next (dR (2*k) s3).2);have HI2:=η (I64.of_next (bF (dR (2*k) s3).2).2);clear hr;generalize (dR (2*k) s3).2=t at*;generalize pairs h (dR (2*k) s3).1=ps at*;have HS:Hid (∀W,(∃t' k' d',VY w W B6 B7 t' k' d' h (ς ap ps.length cp) ps)->W.cell? ⟨B7,2,none⟩=some (ι h)/\W.cell? ⟨B7,3,none⟩=some (ς ap ps.length cp)):=fun W ⟨_,_,_,hW⟩=>by
      obtain⟨-,-,m2,m3⟩:=cells4 hW.msg;exact⟨m2,m3⟩
     go_wp2;refine bf (fun w'=>w'.cell? ⟨B7,2,none⟩=some (ι h)/\w'.cell? ⟨B7,3,none⟩=some (ς ap ps.length cp)) 12 κ ?_;obtain⟨wd,hWd⟩:∃x:World,x=wr.drew:=⟨_,rfl⟩;rw [<-hWd];have GD:Grow wr wd:=by rw [hWd];exact(Grow.refl _).drew
     have zD:wr.heap.size=wd.heap.size:=by rw [hWd];rfl
     have ZD:=η zD;have D0:Hid (VY w wd B6 B7 t z d h (ς ap ps.length cp) ps):=η (HR.o.next (HR.o.YX.grow GD) (ak GD _));clear hWd zD;refine ni [0,1,2,3,4,6] 15 κ (fun _ _ _ _ _ h=>h) (HS.o _ ⟨_,_,_,D0.o⟩) ?_;repeat (refine gQ ?_;try simp only [aK])
     refine ny ?_;refine bO 5 κ rfl ?_;intro K HK;try simp only [aV]
     go_simp;go_at_call 124
     refine(lJ (c:=w.cell?) D0.o.YX D0.o.grow.sub).mono ?_;rintro ex5 x5 ⟨rfl,hr,hg⟩;have D2:=η (D0.o.next hr hg);clear hr hg;refine HK.o _ _ ⟨fun _=>HS.o _ ⟨_,_,_,D2.o⟩,?_⟩;clear HK K;try simp only [aK]
     refine bO 7 κ rfl ?_;intro K HK;try simp only [aV]
     go_simp;go_at_call 124
     refine(lJ (c:=w.cell?) D2.o.YX D2.o.grow.sub).mono ?_;rintro ex7 x7 ⟨rfl,hr,hg⟩;have FX:=η (D2.o.next hr hg);clear hr hg;refine HK.o _ _ ⟨fun _=>HS.o _ ⟨_,_,_,FX.o⟩,?_⟩;clear HK K;try simp only [aK]
     refine bO 8 κ rfl ?_;intro K HK;try simp only [aV]
     go_simp;refine HK.o _ _ ⟨fun _=>HS.o _ ⟨_,_,_,FX.o⟩,?_⟩;clear HK K;try simp only [aK]
     refine bO 9 κ rfl ?_;intro K HK;try simp only [aV]
     go_simp;obtain⟨y9,Za⟩:∃x:World,x=x7.alloc (.cells #[ι h,ι (bF t).1,ι (bF (bF t).2).1] 111):=⟨_,rfl⟩;have GY:Grow x7 y9:=by rw [Za];exact(Grow.refl _).alloc _
     have RY:y9.heap[x7.heap.size]? =some (.cells #[ι h,ι (bF t).1,ι (bF (bF t).2).1] 111 (0,0)):=by rw [Za];exact aF _ _
     have HY:=η (And.intro GY RY);rw [<-Za];clear Za GY RY;refine HK.o _ _ ⟨fun _=>⟨(cells4 (aj FX.o.msg HY.o.1)).2.2.1,(cells4 (aj FX.o.msg HY.o.1)).2.2.2⟩,?_⟩;clear HK K;try simp only [aK]
     refine bO 10 κ rfl ?_;intro K HK;refine aC rfl ?_;try simp only [aV]
     refine oW (n:=ps.length) Di (.tmp 73) (.tmp 81) rfl rfl (g_ FX.o.own HY.o.1) (some ⟨x7.heap.size,0,none⟩) 1 1 [ι h,ι (bF t).1,ι (bF (bF t).2).1] rfl σ rfl (fun ad had j u hu=>?news) (Oa ⟨h,(bF t).1,(bF (bF t).2).1⟩) (by have:=Yd.o;unfold maxLen;omega) (τ Yd.o) (by have:=HY.o.1.size;have:=FX.o.grow.size;have:=(γ FX.o.msg);have:=FX.o.sM;omega) ?_
     case news=>
      obtain rfl:=Option.some.inj had;have h9:=cells3 HY.o.2;rw [Addr.add_lit,Nat.zero_add];match j,hu with
      |0,hu=>simp at hu;rw [<-hu];exact h9.1
      |1,hu=>simp at hu;rw [<-hu];exact h9.2.1
      |2,hu=>simp at hu;rw [<-hu];exact h9.2.2
      |j+3,hu=>simp at hu
     intro a9 c9 z9 hA;have HA:=η hA;clear hA;refine HK.o _ _ ⟨fun _=>⟨(cells4 (aH (aj FX.o.msg HY.o.1) HA.o.grown (fun e9=>(FX.o.Jb _ e9.symm).2 rfl))).2.2.1,(cells4 (aH (aj FX.o.msg HY.o.1) HA.o.grown (fun e9=>(FX.o.Jb _ e9.symm).2 rfl))).2.2.2⟩,?_⟩;clear HK K;try simp only [aK]
     refine bO 11 κ rfl ?_;intro K HK;try simp only [aV]
     go_simp;refine HK.o _ _ ⟨fun _=>⟨(cells4 (aH (aj FX.o.msg HY.o.1) HA.o.grown (fun e9=>(FX.o.Jb _ e9.symm).2 rfl))).2.2.1,(cells4 (aH (aj FX.o.msg HY.o.1) HA.o.grown (fun e9=>(FX.o.Jb _ e9.symm).2 rfl))).2.2.2⟩,?_⟩;clear HK K;try simp only [aK]
     refine bO 12 κ rfl ?_;intro K HK;try simp only [aV]
     obtain⟨m0,m1,m2,m3⟩:=cells4 (aH (aj FX.o.msg HY.o.1) HA.o.grown (fun e9=>(FX.o.Jb _ e9.symm).2 rfl));have f9:=dA (aH (aj FX.o.msg HY.o.1) HA.o.grown (fun e9=>(FX.o.Jb _ e9.symm).2 rfl));go_simp;clear m0 m1 m2 m3 f9;refine HK.o _ _ ⟨fun h=>absurd rfl h,?_⟩;clear HK K;try simp only [aK]
     refine aO κ ?_;go_wp2;go_roundw
     case rel=>
      refine⟨k+1,ς a9 (ps.length+1) c9,δ,by go_num,?_⟩;rw [tW.o.1,tW.o.2];refine VY.part (ps':=ps++ [⟨h,(bF t).1,(bF (bF t).2).1⟩]) FX.o HY.o.1 ?_ HA.o.grown HA.o.blk;have h9:=HA.o.own;simpa [Pt.cells] using h9
     case measure=>simp [intOf];omega
    ·obtain rfl:k=N:=by omega
     have Ye:=η (LU HIH.o s3 k);obtain⟨wx,rfl⟩:∃x:World,x=wr:=⟨_,rfl⟩;clear hr;generalize pairs h (dR (2*k) s3).1=ps at*;generalize (dR (2*k) s3).2=sN at*;obtain⟨lN,eN⟩:=sN;obtain⟨rb,rd,hrow,-⟩:=HR.o.YX;simp only at hrow;have JN:=η hrow;have fT:=η HR.o.res;have JP:=η HR.o.grow;obtain⟨q0,q1⟩:=cells2 hrow;have JS:B6<wx.heap.size:=(γ hrow);have f6:=dA hrow;clear hrow;by_cases hN:eN=0
     ·subst hN
      by_cases fW:lN=[]
      ·have HRP:Hid (readB b=if aQ ⟨z,d,h,ps⟩=0 then(⟨z,d,h,ps⟩,0) else(ms0,aQ ⟨z,d,h,ps⟩)):=η (by
        rw [fS.o];unfold uV;rw [if_pos (by simp [fW])])
       have hll:¬(0:Int)<(lN.length:Int):=by rw [fW];simp
       obtain⟨m0,m1,m2,m3⟩:=cells4 HR.o.msg;have z7x:B7<wx.heap.size:=(γ HR.o.msg);have HW:=η (fun(W:World) (hW:Grow wx W)=>OL (m:=⟨z,d,h,ps⟩) W ⟨_,rfl,ς ap ps.length cp,rfl,HIZ.o,fR.o,HIH.o,(m_.zy HR.o.own Ye.o).mono hW.sub⟩);clear fW;go_wp2_with fail
       refine(HW.o _ (Grow.refl _)).mono ?_;rintro eq wy ⟨rfl,hby⟩;have RY:=η (aj JN.o hby);have D3:=η (aj fT.o hby);have D4:=η (aj HR.o.msg hby);have JT:=η (g_ HR.o.own hby);have GY:=η (JP.o.trans hby);clear hby q0 q1 f6 m0 m1 m2 m3 JS z7x;obtain⟨Zb,Ej⟩:∃x:World,x=wy.setCell ⟨B6,1,none⟩ (ι (aQ ⟨z,d,h,ps⟩)):=⟨_,rfl⟩;have GS:Hid (wy.grownBy Zb (some B6)):=η (by rw [Ej];exact grownBy_setCell wy ⟨B6,1,none⟩ _);have RX:Hid (Zb.heap[B6]? =some (.cells #[ς rb lN.length rd,ι (aQ ⟨z,d,h,ps⟩)] 161 (0,0))):=η (by rw [Ej];exact xI RY.o _);have QZ:=η (aH D3.o GS.o (by have:=H9.o.TR;intro e9;have:=Option.some.inj e9;omega));have fX:=η (aH D4.o GS.o (by have:=H9.o.ne;intro e9;have:=Option.some.inj e9;omega));have OWX:=η (JT.o.kept GS.o (by
        cases e9:(Value.slice ap ps.length cp).ownBlock with
        |none=>exact .inl rfl
        |some q=>exact .inr (by have:=(HR.o.Jb q e9).1;intro e8;have:=Option.some.inj e8;omega)))
       have GX:=η (GY.o.grown GS.o (fun q hq=>by have:=H9.o.TR;simp at hq;omega));obtain⟨q0,q1⟩:=cells2 RY.o;have z6y:B6<wy.heap.size:=(γ RY.o);have f6:=dA RY.o;by_cases hwr:aQ ⟨z,d,h,ps⟩=0
       ·have HE:Hid (readB b=(⟨z,d,h,ps⟩,0)):=η (by rw [HRP.o,if_pos hwr])
        have hbw:(aQ ⟨z,d,h,ps⟩ !=0)=false:=by simp [hwr]
        clear hwr;generalize aQ ⟨z,d,h,ps⟩=er at*;go_upto_region 20 with fail
        rw [<-Ej];clear Ej q0 q1 f6;obtain⟨q0,q1⟩:=cells2 RX.o;obtain⟨m0,m1,m2,m3⟩:=cells4 fX.o;have z7x:B7<Zb.heap.size:=(γ fX.o);have z6z:B6<Zb.heap.size:=(γ RX.o);go_wp2_with (first|(refine wpList_store_row rfl (.tmp 2) (.tmp 121) rfl rfl rfl QZ.o fD rfl rfl ?_))
        intro w7 r7 g7;obtain⟨p0,p1,p2,p3⟩:=cells4 r7;clear q0 q1 m0 m1 m2 m3;go_wp2;refine bodyPost_ret (v:=.tuple #[.agg #[ι z,ι d,ι h,ς ap ps.length cp],ι 0]) (by simp [results,Tryz.results80,go_sem,p0,p1,p2,p3]) rfl ?_;rw [HE.o];refine⟨_,rfl,⟨_,rfl,_,rfl,HIZ.o,fR.o,HIH.o,?_⟩,GX.o.grown g7 (fun q hq=>by simp at hq;omega)⟩;have h9:=aI.pts (c:=fun _=>none) (OWX.o.kept g7 (by
         cases e9:(Value.slice ap ps.length cp).ownBlock with
         |none=>exact .inl rfl
         |some q=>exact .inr (by have:=(OWX.o.lt q e9).1;intro e8;have:=Option.some.inj e8;omega))) Ye.o
        exact h9.slc ε (fun _ _ e9=>by cases e9) (fun a9 ha=>bH δ)
       ·have HE:Hid (readB b=(ms0,aQ ⟨z,d,h,ps⟩)):=η (by rw [HRP.o,if_neg hwr])
        have hbw:(aQ ⟨z,d,h,ps⟩ !=0)=true:=by simp [hwr]
        clear hwr;generalize aQ ⟨z,d,h,ps⟩=er at*;go_upto_region 20 with fail
        rw [<-Ej];clear Ej q0 q1 f6;obtain⟨wx,rfl⟩:∃x:World,x=Zb:=⟨_,rfl⟩;obtain⟨q0,q1⟩:=cells2 RX.o;have z6z:B6<wx.heap.size:=(γ RX.o);go_wp2_with fail
        clear q0 q1;refine bf (fun w'=>w'.cell? ⟨B6,1,none⟩=some (ι (er))) 6 κ ?_;obtain⟨wd,hWd⟩:∃x:World,x=wx.drew:=⟨_,rfl⟩;rw [<-hWd];have GD:Grow wx wd:=by rw [hWd];exact(Grow.refl _).drew
        have zD:wx.heap.size=wd.heap.size:=by rw [hWd];rfl
        have ZD:=η zD;clear hWd zD;refine ni [0,1,2,3,4] 9 κ (fun _ _ _ _ _ h=>h) ((cells2 (aj RX.o GD)).2) ?_;repeat (refine tNm (v:=?_) rfl ρ ?_ ?_;rotate_left;(· (intro w' hSw;(try dsimp only at hSw);go_simp<;>with_reducible rfl));try simp only [aK])
        refine ny ?_;refine bO 5 κ rfl ?_;intro K HK;refine aC rfl ?_;try simp only [aV]
        refine wp_store_row (.tmp 2) (.tmp 116) rfl rfl rfl (aj QZ.o GD) fD rfl rfl ?_;intro w7 r7 g7;refine HK.o _ _ ⟨fun _=>(cells2 (aH (aj RX.o GD) g7 (by have:=H9.o.TR;intro e9;have:=Option.some.inj e9;omega))).2,?_⟩;clear HK K;try simp only [aK]
        refine bO 6 κ rfl ?_;intro K HK;try simp only [aV]
        go_simp;refine HK.o _ _ ⟨fun h=>absurd rfl h,?_⟩;clear HK K;try simp only [aK]
        refine aO κ ?_;obtain⟨p0,p1,p2,p3⟩:=cells4 r7;go_wp2;refine bodyPost_ret (v:=.tuple #[.agg #[ι 0,ι 0,ι 0,()],ι (er)]) (by simp [results,Tryz.results80,go_sem,p0,p1,p2,p3]) rfl ?_;rw [HE.o];exact⟨_,rfl,j_ _,(GX.o.trans GD).grown g7 (fun q hq=>by simp at hq;omega)⟩
      ·have HE:Hid (readB b=(ms0,2)):=η (by
        rw [fS.o];unfold uV;rw [if_neg (by simp [fW])];simp [fW])
       have hll:(0:Int)<(lN.length:Int):=by have:=List.length_pos_iff.2 fW;omega
       obtain⟨Zb,Ej⟩:∃x:World,x=wx.setCell ⟨B6,1,none⟩ (ι 2):=⟨_,rfl⟩;have GS:Hid (wx.grownBy Zb (some B6)):=η (by rw [Ej];exact grownBy_setCell wx ⟨B6,1,none⟩ _);have RX:Hid (Zb.heap[B6]? =some (.cells #[ς rb lN.length rd,ι 2] 161 (0,0))):=η (by rw [Ej];exact xI JN.o _);have QZ:=η (aH fT.o GS.o (by have:=H9.o.TR;intro e9;have:=Option.some.inj e9;omega));have GX:=η (JP.o.grown GS.o (fun q hq=>by have:=H9.o.TR;simp at hq;omega));clear fW;go_upto_region 18 with fail
       rw [<-Ej];clear Ej q0 q1 f6 JS;obtain⟨wx,rfl⟩:∃x:World,x=Zb:=⟨_,rfl⟩;obtain⟨q0,q1⟩:=cells2 RX.o;have z6z:B6<wx.heap.size:=(γ RX.o);go_wp2_with fail
       clear q0 q1;refine bf (fun w'=>w'.cell? ⟨B6,1,none⟩=some (ι (2))) 6 κ ?_;obtain⟨wd,hWd⟩:∃x:World,x=wx.drew:=⟨_,rfl⟩;rw [<-hWd];have GD:Grow wx wd:=by rw [hWd];exact(Grow.refl _).drew
       have zD:wx.heap.size=wd.heap.size:=by rw [hWd];rfl
       have ZD:=η zD;clear hWd zD;refine ni [0,1,2,3,4] 9 κ (fun _ _ _ _ _ h=>h) ((cells2 (aj RX.o GD)).2) ?_;repeat (refine tNm (v:=?_) rfl ρ ?_ ?_;rotate_left;(· (intro w' hSw;(try dsimp only at hSw);go_simp<;>with_reducible rfl));try simp only [aK])
       refine ny ?_;refine bO 5 κ rfl ?_;intro K HK;refine aC rfl ?_;try simp only [aV]
       refine wp_store_row (.tmp 2) (.tmp 116) rfl rfl rfl (aj QZ.o GD) fD rfl rfl ?_;intro w7 r7 g7;refine HK.o _ _ ⟨fun _=>(cells2 (aH (aj RX.o GD) g7 (by have:=H9.o.TR;intro e9;have:=Option.some.inj e9;omega))).2,?_⟩;clear HK K;try simp only [aK]
       refine bO 6 κ rfl ?_;intro K HK;try simp only [aV]
       go_simp;refine HK.o _ _ ⟨fun h=>absurd rfl h,?_⟩;clear HK K;try simp only [aK]
       refine aO κ ?_;obtain⟨p0,p1,p2,p3⟩:=cells4 r7;go_wp2;refine bodyPost_ret (v:=.tuple #[.agg #[ι 0,ι 0,ι 0,()],ι (2)]) (by simp [results,Tryz.results80,go_sem,p0,p1,p2,p3]) rfl ?_;rw [HE.o];exact⟨_,rfl,j_ _,(GX.o.trans GD).grown g7 (fun q hq=>by simp at hq;omega)⟩
     ·have HE:Hid (readB b=(ms0,eN)):=η (by
       rw [fS.o];unfold uV;simp only;rw [if_neg (by simp [hN])];simp [hN])
      have hb1:(eN==0)=false:=by simp [hN]
      have hb2:(eN !=0)=true:=by simp [hN]
      have RX:=η JN.o;have QZ:=η fT.o;have GX:=η JP.o;clear hN;go_wp2_with fail
      clear q0 q1;refine bf (fun w'=>w'.cell? ⟨B6,1,none⟩=some (ι (eN))) 6 κ ?_;obtain⟨wd,hWd⟩:∃x:World,x=wx.drew:=⟨_,rfl⟩;rw [<-hWd];have GD:Grow wx wd:=by rw [hWd];exact(Grow.refl _).drew
      have zD:wx.heap.size=wd.heap.size:=by rw [hWd];rfl
      have ZD:=η zD;clear hWd zD;refine ni [0,1,2,3,4] 9 κ (fun _ _ _ _ _ h=>h) ((cells2 (aj RX.o GD)).2) ?_;repeat (refine tNm (v:=?_) rfl ρ ?_ ?_;rotate_left;(· (intro w' hSw;(try dsimp only at hSw);go_simp<;>with_reducible rfl));try simp only [aK])
      refine ny ?_;refine bO 5 κ rfl ?_;intro K HK;refine aC rfl ?_;try simp only [aV]
      refine wp_store_row (.tmp 2) (.tmp 116) rfl rfl rfl (aj QZ.o GD) fD rfl rfl ?_;intro w7 r7 g7;refine HK.o _ _ ⟨fun _=>(cells2 (aH (aj RX.o GD) g7 (by have:=H9.o.TR;intro e9;have:=Option.some.inj e9;omega))).2,?_⟩;clear HK K;try simp only [aK]
      refine bO 6 κ rfl ?_;intro K HK;try simp only [aV]
      go_simp;refine HK.o _ _ ⟨fun h=>absurd rfl h,?_⟩;clear HK K;try simp only [aK]
      refine aO κ ?_;obtain⟨p0,p1,p2,p3⟩:=cells4 r7;go_wp2;refine bodyPost_ret (v:=.tuple #[.agg #[ι 0,ι 0,ι 0,()],ι (eN)]) (by simp [results,Tryz.results80,go_sem,p0,p1,p2,p3]) rfl ?_;rw [HE.o];exact⟨_,rfl,j_ _,(GX.o.trans GD).grown g7 (fun q hq=>by simp at hq;omega)⟩
  ·obtain rfl:n=0:=hnz he3
   obtain⟨l3,e3⟩:=s3;simp only at he3 q1;have HE:Hid (readB b=(ms0,e3)):=η (by
    rw [J8.o,if_neg (by simp [he3])];simp only [Int.toNat_zero,Nat.mul_zero,dR];unfold uV;simp only;rw [if_neg (by simp [he3])];simp [he3])
   have hb1:(e3==0)=false:=by simp [he3]
   have hb2:(e3 !=0)=true:=by simp [he3]
   have R9:=η H9.o.YX;clear he3 hnz hnb J8;go_wp2;go_loopw [70] (fun i wr=>i=ι 0/\wr=w9) (fun _ _=>0)
   case atStart=>exact⟨rfl,rfl⟩
   case round=>
    obtain⟨rfl,hwr⟩:=hrel;obtain⟨wx,rfl⟩:∃x:World,x=wr:=⟨_,rfl⟩;have R9x:=η (show TQ wx B6 w.cell? (l3,e3) by rw [hwr];exact R9.o);have QZ:Hid (wx.heap[w.heap.size]? =some (.cells #[ι 0,ι 0,ι 0,()] 85 (0,0))):=η (by rw [hwr];exact R2.o);have GX:=η (show Grow w wx by rw [hwr];exact G9.o);clear hwr q0 q1 z6;obtain⟨rb,rd,hrow,-⟩:=R9x.o;simp only at hrow;have RX:=η hrow;obtain⟨q0,q1⟩:=cells2 hrow;have JS:B6<wx.heap.size:=(γ hrow);clear hrow;go_wp2_with fail
    clear q0 q1;refine bf (fun w'=>w'.cell? ⟨B6,1,none⟩=some (ι (e3))) 6 κ ?_;obtain⟨wd,hWd⟩:∃x:World,x=wx.drew:=⟨_,rfl⟩;rw [<-hWd];have GD:Grow wx wd:=by rw [hWd];exact(Grow.refl _).drew
    have zD:wx.heap.size=wd.heap.size:=by rw [hWd];rfl
    have ZD:=η zD;clear hWd zD;refine ni [0,1,2,3,4] 9 κ (fun _ _ _ _ _ h=>h) ((cells2 (aj RX.o GD)).2) ?_;repeat (refine tNm (v:=?_) rfl ρ ?_ ?_;rotate_left;(· (intro w' hSw;(try dsimp only at hSw);go_simp<;>with_reducible rfl));try simp only [aK])
    refine ny ?_;refine bO 5 κ rfl ?_;intro K HK;refine aC rfl ?_;try simp only [aV]
    refine wp_store_row (.tmp 2) (.tmp 116) rfl rfl rfl (aj QZ.o GD) fD rfl rfl ?_;intro w7 r7 g7;refine HK.o _ _ ⟨fun _=>(cells2 (aH (aj RX.o GD) g7 (by have:=H9.o.TR;intro e9;have:=Option.some.inj e9;omega))).2,?_⟩;clear HK K;try simp only [aK]
    refine bO 6 κ rfl ?_;intro K HK;try simp only [aV]
    go_simp;refine HK.o _ _ ⟨fun h=>absurd rfl h,?_⟩;clear HK K;try simp only [aK]
    refine aO κ ?_;obtain⟨p0,p1,p2,p3⟩:=cells4 r7;go_wp2;refine bodyPost_ret (v:=.tuple #[.agg #[ι 0,ι 0,ι 0,()],ι (e3)]) (by simp [results,Tryz.results80,go_sem,p0,p1,p2,p3]) rfl ?_;rw [HE.o];exact⟨_,rfl,j_ _,(GX.o.trans GD).grown g7 (fun q hq=>by simp at hq;omega)⟩
 ·have HE:Hid (readB b=(ms0,7)):=η (by
   unfold readB;rw [if_neg QX.o,if_neg (by rw [qp.o];simpa using ht)])
  by_cases hxx:(x:Int)=(s:Int)/256
  ·have hyy:¬(y:Int)=(s:Int) % 256:=fun h=>ht (hsx.1 ⟨hxx,h⟩)
   have hbx:((x:Int) !=(s:Int)/256)=false:=by simp [hxx]
   have hby:((y:Int) !=(s:Int) % 256)=true:=by simp [hyy]
   clear hsx qp ht hxx hyy;go_enter Tryz.func80,Tryz.ntmps80;go_wp2_with fail
   refine(Yc.o _ ((Grow.refl _).alloc _)).mono ?_;rintro e0 w1 ⟨rfl,hb1⟩;have R2:=η (aj (aF w (.cells #[ι 0,ι 0,ι 0,()] 85)) hb1);have G1:=η (((Grow.refl w).alloc (.cells #[ι 0,ι 0,ι 0,()] 85)).trans hb1);replace c0:=G1.o.sub _ _ c0;replace cx:=G1.o.sub _ _ cx;replace cy:=G1.o.sub _ _ cy;have z2:w.heap.size<w1:=(γ R2.o);clear hb1;go_wp2_with (first|(refine wpList_store_row rfl (.tmp 2) (.tmp 38) rfl rfl rfl R2.o fD rfl rfl ?_))
   intro w7 r7 g7;obtain⟨p0,p1,p2,p3⟩:=cells4 r7;go_wp2;refine bodyPost_ret (v:=.tuple #[.agg #[ι 0,ι 0,ι 0,()],ι 7]) (by simp [results,Tryz.results80,go_sem,p0,p1,p2,p3]) rfl ?_;rw [HE.o];exact⟨_,rfl,j_ _,G1.o.grown g7 (fun q hq=>by simp at hq;omega)⟩
  ·have hbx:((x:Int) !=(s:Int)/256)=true:=by simp [hxx]
   clear hsx qp ht hxx;go_enter Tryz.func80,Tryz.ntmps80;go_wp2_with fail
   refine(Yc.o _ ((Grow.refl _).alloc _)).mono ?_;rintro e0 w1 ⟨rfl,hb1⟩;have R2:=η (aj (aF w (.cells #[ι 0,ι 0,ι 0,()] 85)) hb1);have G1:=η (((Grow.refl w).alloc (.cells #[ι 0,ι 0,ι 0,()] 85)).trans hb1);replace c0:=G1.o.sub _ _ c0;replace cx:=G1.o.sub _ _ cx;replace cy:=G1.o.sub _ _ cy;have z2:w.heap.size<w1:=(γ R2.o);clear hb1;go_wp2_with (first|(refine wpList_store_row rfl (.tmp 2) (.tmp 38) rfl rfl rfl R2.o fD rfl rfl ?_))
   intro w7 r7 g7;obtain⟨p0,p1,p2,p3⟩:=cells4 r7;go_wp2;refine bodyPost_ret (v:=.tuple #[.agg #[ι 0,ι 0,ι 0,()],ι 7]) (by simp [results,Tryz.results80,go_sem,p0,p1,p2,p3]) rfl ?_;rw [HE.o];exact⟨_,rfl,j_ _,G1.o.grown g7 (fun q hq=>by simp at hq;omega)⟩
theorem Je {α:Type} {T:Ty α} {P:Program} {ty:TypeId} {c:CM} {w:World} {base e g cap i:Nat} {l:List α} {cells:Array Value} {x:α}
  (hown:aI T c w base e (ς (some ⟨g,0,none⟩) l.length cap) l) (hi:i<l.length) (hsz:(P.info? ty).map (·.size)=some cells.size) (hR:T.R c cells.toList x) (h1:cells.toList.all (·.oneCell')=true):
  ∃w',(storeVar ty ⟨g,i*T.size,none⟩ (.agg cells)).run P w=.ok () w'/\aI T c w' base e (ς (some ⟨g,0,none⟩) l.length cap) (l.set i x)/\w.grownBy w' (some g):=by
 obtain⟨css,⟨hl,⟨h',_⟩|⟨g',cap',cur,h',hb,hg,hnc,hcm,hcs,htake⟩⟩,h2,h3⟩:=hown
 ·simp at h'
 simp only [Value.slice.injEq,Option.some.injEq,Addr.mk.injEq,and_true,true_and] at h';obtain⟨rfl,rfl⟩:=h';have hcl:=jM h2 h3;have hlen:cells.toList.length=T.size:=T.len hR;have hle:i*T.size+T.size<=l.length*T.size:=by
  have:=Nat.mul_le_mul_right T.size (show i+1<=l.length by omega);rw [Nat.add_mul] at this;omega
 have hle2:l.length*T.size<=cap*T.size:=Nat.mul_le_mul_right _ hnc;have hr:=run_storeCells_at (P:=P) g (i*T.size) e cells.toList 0 cur w hg (by rw [hlen];omega) (fun v hv=>by simpa using List.all_eq_true.1 h1 v hv);have e9:(l.set i x).length=l.length:=List.length_set;have e1:css.flatten.length=l.length*T.size:=by rw [jV css hcl,h2]
 have e2:cur.toList.take (i*T.size)=css.flatten.take (i*T.size):=by rw [<-htake,List.take_take,Nat.min_eq_left δ]
 have e3:(cur.toList.drop (i*T.size+T.size)).take (l.length*T.size - (i*T.size+T.size))=css.flatten.drop (i*T.size+T.size):=by
  rw [<-htake,List.drop_take]
 have e4:(css.flatten.take (i*T.size)).length=i*T.size:=by rw [List.length_take,e1,Nat.min_eq_left δ]
 have hown':(w.setRow g (cur.toList.take (i*T.size+0)++cells.toList++cur.toList.drop (i*T.size+0+cells.toList.length)).toArray).ownsRow base e T.size (ς (some ⟨g,0,none⟩) l.length cap) l.length (css.set i cells.toList).flatten:=by
  refine⟨?_,.inr ⟨g,cap,_,rfl,hb,setRow_heap w g cur _ e _ hg,hnc,hcm,?_,?_⟩⟩
  ·rw [jV _ (fun cs hc=>by rcases List.mem_or_eq_of_mem_set hc with h|h;exact hcl cs h;rw [h];exact hlen)]
   simp [h2]
  ·rw [List.size_toArray,List.length_append,List.length_append,List.length_take,List.length_drop,hlen,Array.length_toList,hcs];omega
  ·rw [hlen,Nat.add_zero,e2]
   simp only;rw [List.take_append,List.take_of_length_le (by rw [List.length_append,e4,hlen];exact hle),List.length_append,e4,hlen,e3,jD css i hcl,show i*T.size+T.size=(i+1)*T.size by rw [Nat.add_mul];omega,lS css (i+1) hcl,
    List.set_eq_take_append_cons_drop,if_pos δ]
   simp
 refine⟨w.setRow g (cur.toList.take (i*T.size+0)++cells.toList++cur.toList.drop (i*T.size+0+cells.toList.length)).toArray,?_,⟨css.set i cells.toList,by rw [e9];exact hown',by simp [h2],fun j cs y ej ey=>?_⟩,⟨rfl,rfl,rfl,by simp [World.setRow],fun k hk hne=>?_⟩⟩
 ·cases hq:P.info? ty with
  |none=>simp [hq] at hsz
  |some q=>
   have hs:cells.size=q.size:=by simp [hq] at hsz;omega
   simp [storeVar,sizeOf,typeInfo,hq,Value.cells,hs] at hr ⊢;exact hr
 ·by_cases hj:j=i
  ·subst hj
   rw [List.getElem?_set_self δ] at ej ey;obtain rfl:=Option.some.inj ej;obtain rfl:=Option.some.inj ey;exact hR
  ·rw [List.getElem?_set_ne (fun e=>hj e.symm)] at ej ey
   exact h3 j cs y ej ey
 ·simp only [World.setRow]
  rw [Array.getElem?_modify];rw [if_neg (fun e=>hne (by rw [e]))]
theorem uX {α:Type} {T:Ty α} {P:Program} {ty:TypeId} {c:CM} {w:World} {o:Oper} {a:Act} {K:Act->World->Prop} {Q:Exit->Act->World->Prop} (d s:Operand) (ho:o.op=.store ty d s)
  {base e g cap i p:Nat} {l:List α} {cells:Array Value} {x:α} (hd:a.eval d=.pointer (some ⟨g,p,none⟩)) (hs:a.eval s=.agg cells) (hp:p=i*T.size)
  (hown:aI T c w base e (ς (some ⟨g,0,none⟩) l.length cap) l) (hi:i<l.length) (hsz:(P.info? ty).map (·.size)=some cells.size) (hR:T.R c cells.toList x) (h1:cells.toList.all (·.oneCell')=true)
  (h:∀w',aI T c w' base e (ς (some ⟨g,0,none⟩) l.length cap) (l.set i x)->w.grownBy w' (some g)->K (a.put o.dst undef) w'):o.wp P a w K Q:=by
 subst hp;obtain⟨w',hr,h2,h3⟩:=Je (P:=P) (ty:=ty) hown hi hsz hR h1;unfold Oper.wp execOp;simp only [ho,hd,hs,Instr.storeAt,Instr.sureAddr,Sem.run_bind,Sem.run_pure,Result.andThen_ok,hr];exact h _ h2 h3
theorem CB {α:Type} {T:Ty α} {P:Program} {ty:TypeId} {c:CM} {w:World} {ops:Array Oper} {rest:List Oper} {o:Oper} {a:Act} {Q:Exit->Act->World->Prop} (hgd:o.guard=none) (d s:Operand) (ho:o.op=.store ty d s)
  {base e g cap i p:Nat} {l:List α} {cells:Array Value} {x:α} (hd:a.eval d=.pointer (some ⟨g,p,none⟩)) (hs:a.eval s=.agg cells) (hp:p=i*T.size)
  (hown:aI T c w base e (ς (some ⟨g,0,none⟩) l.length cap) l) (hi:i<l.length) (hsz:(P.info? ty).map (·.size)=some cells.size) (hR:T.R c cells.toList x) (h1:cells.toList.all (·.oneCell')=true)
  (h:∀w',aI T c w' base e (ς (some ⟨g,0,none⟩) l.length cap) (l.set i x)->w.grownBy w' (some g)->wpList P ops Q rest (a.put o.dst undef) w'):wpList P ops Q (o::rest) a w:=
 wpList_plain hgd fun _ hK=>uX d s ho hd hs hp hown hi hsz hR h1 fun w' a b=>hK _ _ (h w' a b)
def OM (a b:List Pt):Prop:=∀p∈a,∀q∈b,¬(p.h=q.h/\p.k=q.k)
theorem OM.symm {a b:List Pt} (h:OM a b):OM b a:=fun p hp q hq e=>h q hq p hp ⟨e.1.symm,e.2.symm⟩
def Jf {α β:Type} (R:α->β->Prop):List α->List β->Prop
 | [],[]=>True
 |a::l,b::m=>R a b/\Jf R l m
 |_,_=>False
theorem Jf.len {α β:Type} {R:α->β->Prop}:∀{l:List α} {m:List β},Jf R l m->l.length=m.length
 | [],[],_=>rfl
 |_::_,_::_,h=>by rw [List.length_cons,List.length_cons,Jf.len h.2]
 | [],_::_,h=>h.elim
 |_::_,[],h=>h.elim
theorem Jf.get {α β:Type} {R:α->β->Prop}:∀{l:List α} {m:List β},Jf R l m->∀(i:Nat) (a:α) (b:β),l[i]? =some a->m[i]? =some b->R a b
 | [],[],_,i,a,b,h1,_=>by simp at h1
 |_::_,_::_,h,0,a,b,h1,h2=>by
  simp only [List.getElem?_cons_zero,Option.some.injEq] at h1 h2;subst h1 h2;exact h.1
 |_::_,_::_,h,i+1,a,b,h1,h2=>Jf.get h.2 i a b (by simpa using h1) (by simpa using h2)
 | [],_::_,h,_,_,_,_,_=>h.elim
 |_::_,[],h,_,_,_,_,_=>h.elim
theorem aI.lit {α:Type} {T:Ty α} {c:CM} {base e:Nat} (w:World) {cs:Array Value} (css:List (List Value)) {l:List α} {g n:Nat} (hg:g=w.heap.size) (hn:n=l.length) (hb:base<=w.heap.size) (hm:l.length<=maxLen) (hcs:cs.toList=css.flatten) (hR:Jf (T.R c) css l):aI T c (w.alloc (.cells cs e)) base e (ς (some ⟨g,0,none⟩) n n) l:=by
 subst hg hn;have hl:=hR.len;have h3:=hR.get;refine⟨css,?_,hl,h3⟩;have h:=World.ownsRow_lit (base:=base) (e:=e) (size:=T.size) w cs l.length hb hm (by rw [<-Array.length_toList,hcs,jV css (jM hl h3),hl]);rw [hcs] at h;exact h
theorem Sl.lit {α:Type} {T:Ty α} {e:Nat} (w:World) {W:World} {cs:Array Value} (css:List (List Value)) {l:List α} {g n:Nat} (h0:0<T.size) (hW:Grow (w.alloc (.cells cs e)) W) (hg:g=w.heap.size) (hn:n=l.length) (hm:l.length<=maxLen) (hcs:cs.toList=css.flatten) (hR:Jf (T.R w.cell?) css l):Sl T W.cell? (ς (some ⟨g,0,none⟩) n n) l:=
 ((aI.lit (base:=w.heap.size) (e:=e) w css hg hn (Nat.le_refl _) hm hcs hR).sl h0 ((Grow.refl _).alloc _).sub).mono hW.sub
theorem Em {m:Ms} (h:aQ m=0):0<=m.kind/\m.kind<256:=by
 have:=(vP.1 h).kind;omega
theorem Hf {m:Ms} (h:aQ m=0):m.parts.length<=4:=(vP.1 h).len
def gX (l:List (List UInt8)) (ms:List Ms):List (List UInt8):=l++(ms.take (24 - l.length)).map aS
theorem Hg (l:List (List UInt8)):gX l []=l:=by simp [gX]
theorem Hl (l:List (List UInt8)) (ms:List Ms):(gX l ms).length=l.length+min (24 - l.length) ms.length:=by simp [gX]
theorem En {l:List (List UInt8)} {ms:List Ms} {k:Nat} (h:k<ms.length):gX l (ms.take (k+1))=if(gX l (ms.take k)).length<24 then gX l (ms.take k)++ [aS ms[k]] else gX l (ms.take k):=by
 have hl:=Hl l (ms.take k);rw [List.length_take] at hl;by_cases hc:(gX l (ms.take k)).length<24
 ·rw [if_pos hc]
  unfold gX;rw [List.take_take,List.take_take,Nat.min_eq_right δ,Nat.min_eq_right δ,List.take_succ_eq_append_getElem h,List.map_append,List.append_assoc];rfl
 ·rw [if_neg hc]
  unfold gX;rw [List.take_take,List.take_take,Nat.min_eq_left δ,Nat.min_eq_left δ]
theorem uY {v vm:Value} {l:List (List UInt8)} {ms:List Ms} (w:World) (hv:uH w.cell? v l) (hms:nL w.cell? vm ms) (hr:∀m∈ms,aQ m=0) (hm:l.length*24<=140737488355328) (hp:∀b∈l,b.length<=140737488355328):
  Calls Tryz.prog 48 #[v,vm] w fun e w'=>∃v',e=.returned v'/\aI Ty.bs (fr w w' [v'.ownBlock]) w' w.heap.size 97 v' (gX l ms)/\Grow w w':=by
 have HR:=η hr;have FY:=η (CV w hv hm hp);obtain⟨am,cm,rfl,h1,h2,-,hel⟩:=hms;unfold maxLen at h2;clear hv hr hm hp;go_enter Tryz.func48,Tryz.ntmps48;go_wp2_with fail
 refine FY.o.mono ?_;rintro e w1 ⟨v1,rfl,hown1,hb1⟩;have uI:=η hown1;have HB1:=η hb1;obtain⟨a1,k1,rfl⟩:=hown1.form;clear hown1 hb1;go_wp2;go_loopw [5,12] (fun bv i wr=>∃k:Nat,k<=ms.length/\i=ι k/\Grow w wr/\aI Ty.bs (fr w wr [bv.ownBlock]) wr w.heap.size 97 bv (gX l (ms.take k))) (fun _ i _=>ms.length - (intOf i).toNat)
 case atStart=>exact⟨0,δ,rfl,HB1.o,by rw [List.take_zero,Hg];exact uI.o⟩
 case round=>
  obtain⟨k,hk',rfl,hb,hown⟩:=hrel;obtain⟨av,cv,rfl⟩:=hown.form;by_cases hlt:k<ms.length
  ·obtain⟨b,o,vp,rfl,c0,c1,c2,c3,i0,i1,i2,hP⟩:=nL.at_ hel k hlt
   obtain⟨ap,cp,rfl,-⟩:=id hP;replace c0:=hb.sub _ _ c0;replace c1:=hb.sub _ _ c1;replace c2:=hb.sub _ _ c2;replace c3:=hb.sub _ _ c3;have hw:=HR.o ms[k] (List.getElem_mem _);have HST:=η (En (l:=l) hlt);have J0:=η (fun(W:World) (hW:Grow wr W)=>OI (m:=ms[k]) W ⟨_,rfl,_,rfl,i0,i1,i2,hP.mono (hb.trans hW).sub⟩ (Em hw) (Hf hw));have HOWN:=η hown;have HB:=η hb;clear hel hP hw hown i0 i1 i2 hb;generalize ms[k]=m at*;generalize gX l (ms.take k)=lk at*;by_cases Yf:lk.length<24
   ·have wY:=η (show gX l (ms.take (k+1))=lk++ [aS m] by rw [HST.o,if_pos Yf])
    clear HST;go_wp2_with fail
    refine(J0.o _ ((Grow.refl _).alloc _)).mono ?_;rintro e w2 ⟨v2,rfl,ho2,hb2⟩;obtain⟨a2,cap2,rfl⟩:=aY ho2;have ql:=η ho2;have HB2:=η (((Grow.refl wr).alloc (.cells #[ι m.kind,ι m.deed,ι m.house,ς ap m.parts.length cp] 85)).trans hb2);clear ho2 hb2;generalize aS m=r at*;go_wp2_with (first|(at_builtin;refine aZ (c:=fr w (w2.alloc (.cells #[ς a2 r.length cap2] 97)) [(Value.slice av lk.length cv).ownBlock]) (base:=w.heap.size) (l:=lk) (m:=[r]) jU rfl (iZ Ty.byte) ε rfl (.tmp 19) (.tmp 22) rfl rfl ?own rfl (Src.bQ (T:=Ty.bs) (x:=r) (cs:=#[ς a2 r.length cap2]) ?d0 _ _ ?d1) ?d2 ?d3 ?_))
    case own=>exact(HOWN.o.mono (dO (HB2.o.alloc _))).grow (HB2.o.alloc _)
    case d0=>
     refine⟨_,rfl,?_⟩;have hlt2:=HOWN.o.lt;refine Ja (w1:=wr.alloc (.cells #[ι m.kind,ι m.deed,ι m.house,ς ap m.parts.length cp] 85)) ?_ (by have:=HB.o.size;simp;omega) ?_
     ·exact g_ ql.o ((Grow.refl _).alloc _)
     ·intro q hq
      simp only [List.mem_singleton];intro e;have:=(hlt2 q e.symm).2;simp at hq;omega
    case d1=>simp
    case d2=>simp;omega
    case d3=>have:=(HB2.o.alloc (.cells #[ς a2 r.length cap2] 97)).size;have:=HB.o.size;omega
    intro a5 c5 w5 hown5 hg5 hb5;have QG:Grow w w5:=bn (w0:=w) (HB.o.trans (HB2.o.alloc _)) hg5 (fun q hq=>(HOWN.o.lt q hq).1);have l9:=η (hown5.mono (pF hg5 (hb5.imp_right fun⟨g,e,hge⟩=>⟨g,e,by simpa using hge⟩)));have rG:=η QG;clear hown5 hg5 hb5 QG;go_wp2;go_roundw
    case rel=>exact⟨k+1,δ,by go_num,rG.o,by rw [wY.o];exact l9.o⟩
    case measure=>simp [intOf];omega
   ·have wY:=η (show gX l (ms.take (k+1))=lk by rw [HST.o,if_neg Yf])
    clear HST;go_wp2;go_roundw
    case rel=>exact⟨k+1,δ,by go_num,HB.o.alloc _,by rw [wY.o];exact(HOWN.o.mono (dO ((Grow.refl _).alloc _))).grow ((Grow.refl _).alloc _)⟩
    case measure=>simp [intOf];omega
  ·clear hel
   go_wp2;go_ret;have h9:=hown;rw [List.take_of_length_le δ] at h9;rw [List.take_of_length_le δ];exact⟨_,rfl,h9,hb⟩
def pR (l:List (List UInt8)) (n:Int):List (List UInt8)×Int:=
 if 0<=n/\n<l.length then(if l.length<24 then l++ [l.getD n.toNat []] else l,0) else(l,6)
theorem TV {v:Value} {l:List (List UInt8)} {n:Int} (w:World) (hv:uH w.cell? v l) (hm:l.length*24<=140737488355328) (hp:∀b∈l,b.length<=140737488355328):
  Calls Tryz.prog 44 #[v,ι n] w fun e w'=>∃v',e=.returned (.tuple #[v',ι (pR l n).2])/\aI Ty.bs (fr w w' [v'.ownBlock]) w' w.heap.size 97 v' (pR l n).1/\Grow w w':=by
 have FY:=η (CV w hv hm hp);have HP:=η hp;obtain⟨a,cap,rfl,h1,h2,-,hel⟩:=hv;unfold maxLen at h2;clear hm hp;by_cases hin:0<=n/\n<l.length
 ·obtain⟨i,rfl⟩:∃i:Nat,n=i:=⟨n.toNat,δ⟩
  have hi:i<l.length:=by omega
  obtain⟨b,o,vp,rfl,c0,hP⟩:=uH.at_ hel i hi;obtain⟨ap,cp,rfl,-⟩:=id hP;have hpl:=HP.o l[i] (List.getElem_mem _);have hgd:l.getD i []=l[i]:=by rw [List.getD_eq_getElem?_getD,List.getElem?_eq_getElem hi];rfl
  have HE:=η (show pR l i=(if l.length<24 then l++ [l[i]] else l,0) by unfold pR;rw [if_pos hin,Int.toNat_natCast,hgd]);have CS:=η (fun(W:World) (hW:Grow w W)=>Dz W (hP.mono hW.sub) δ);clear hel hP hpl hgd hin;generalize l[i]=r at*;by_cases Yf:l.length<24
  ·have HE2:=η (show pR l i=(l++ [r],0) by rw [HE.o,if_pos Yf])
   clear HE HP;go_enter Tryz.func44,Tryz.ntmps44;go_wp2_with fail
   refine FY.o.mono ?_;rintro e w1 ⟨v1,rfl,hown,hb⟩;obtain⟨av,cv,rfl⟩:=hown.form;have HOWN:=η hown;have HB:=η hb;replace c0:=hb.sub _ _ c0;clear hown hb;go_wp2_with fail
   refine(CS.o _ HB.o).mono ?_;rintro e w2 ⟨v2,rfl,ho2,hb2⟩;obtain⟨a2,cap2,rfl⟩:=aY ho2;have ql:=η ho2;have HB2:=η hb2;clear ho2 hb2 c0;go_wp2_with (first|(at_builtin;refine aZ (c:=fr w (w2.alloc (.cells #[ς a2 r.length cap2] 97)) [(Value.slice av l.length cv).ownBlock]) (base:=w.heap.size) (l:=l) (m:=[r]) jU rfl (iZ Ty.byte) ε rfl (.tmp 21) (.tmp 27) rfl rfl ?own rfl (Src.bQ (T:=Ty.bs) (x:=r) (cs:=#[ς a2 r.length cap2]) ?d0 _ _ ?d1) ?d2 ?d3 ?_))
   case own=>exact(HOWN.o.mono (dO (HB2.o.alloc _))).grow (HB2.o.alloc _)
   case d0=>
    refine⟨_,rfl,?_⟩;have hlt2:=HOWN.o.lt;refine Ja (w1:=w1) ?_ HB.o.size ?_
    ·exact g_ ql.o ((Grow.refl _).alloc _)
    ·intro q hq
     simp only [List.mem_singleton];intro e;have:=(hlt2 q e.symm).2;omega
   case d1=>simp
   case d2=>simp;omega
   case d3=>have:=(HB2.o.alloc (.cells #[ς a2 r.length cap2] 97)).size;have:=HB.o.size;omega
   intro a5 c5 w5 hown5 hg5 hb5;have QG:Grow w w5:=bn (w0:=w) (HB.o.trans (HB2.o.alloc _)) hg5 (fun q hq=>(HOWN.o.lt q hq).1);have l9:=η (hown5.mono (pF hg5 (hb5.imp_right fun⟨g,e,hge⟩=>⟨g,e,by simpa using hge⟩)));have rG:=η QG;clear hown5 hg5 hb5 QG;go_wp2;refine bodyPost_ret (v:=.tuple #[ς a5 (l.length+ [r].length) c5,ι 0]) (by simp [results,Tryz.results44,go_sem]) rfl ?_;rw [HE2.o];exact⟨_,rfl,l9.o,rG.o⟩
  ·have HE2:=η (show pR l i=(l,0) by rw [HE.o,if_neg Yf])
   clear HE HP;go_enter Tryz.func44,Tryz.ntmps44;go_wp2_with fail
   refine FY.o.mono ?_;rintro e w1 ⟨v1,rfl,hown,hb⟩;obtain⟨av,cv,rfl⟩:=hown.form;have HOWN:=η hown;have HB:=η hb;clear hown hb;go_wp2;refine bodyPost_ret (v:=.tuple #[ς av l.length cv,ι 0]) (by simp [results,Tryz.results44,go_sem]) rfl ?_;rw [HE2.o];exact⟨_,rfl,HOWN.o,HB.o⟩
 ·have HE:=η (show pR l n=(l,6) by unfold pR;rw [if_neg hin])
  have hcase:n<0∨(0<=n/\(l.length:Int)<=n):=by omega
  clear hin hel HP;rcases hcase with h0|⟨h0,h9⟩
  all_goals
   go_enter Tryz.func44,Tryz.ntmps44;go_wp2_with fail
   refine FY.o.mono ?_;rintro e w1 ⟨v1,rfl,hown,hb⟩;obtain⟨av,cv,rfl⟩:=hown.form;have HOWN:=η hown;have HB:=η hb;clear hown hb;go_wp2;refine bodyPost_ret (v:=.tuple #[ς av l.length cv,ι 6]) (by simp [results,Tryz.results44,go_sem]) rfl ?_;rw [HE.o];exact⟨_,rfl,HOWN.o,HB.o⟩
theorem K_ {w:World} {o:Oper} {a:Act} {K:Act->World->Prop} {Q:Exit->Act->World->Prop} (s x:Operand)
  (ho:o.op=.call { callee:=.builtin .append,args:=#[s,x],argTypes:=#[97,97] })
  {base base':Nat} {v v2:Value} {b b2:List UInt8} (hs:a.eval s=v) (hown:OwnB w base v b) (hbase:base<=w.heap.size) (hx:a.eval x=v2) (h2:OwnB w base' v2 b2)
  (hlen:b.length+b2.length<=140737488355328)
  (h:∀v' w',OwnB w' base v' (b++b2)->jh w w' v v'->K (a.put o.dst v') w'):o.wp Tryz.prog a w K Q:=by
 obtain⟨a2,c2,rfl⟩:=aY h2;obtain⟨e1,e2⟩:=Iz h2;refine oW yc s x ho hs hown a2 b2.length c2 (b2.flatMap fA) hx e1 (nI (size:=1) (f:=fA) (fun _=>rfl) b2) e2 (rC one_byte b2) (by unfold maxLen;omega) δ hbase fun a' c' w' hA=>?_;have h1:=hA.own;rw [D5] at h1;refine h _ w' ?_ ⟨hA.grown,hA.blk⟩;have e:b.length+b2.length=(b++b2).length:=by simp
 rw [e] at h1 ⊢;exact h1
theorem uB {w W:World} {base:Nat} {k:Int} {x:UInt8} (hk:k=(x.toNat:Int)) (hb:base<=w.heap.size) (hW:W=w.alloc (.cells #[.int .u8 k] 5)):OwnB W base (ς (some ⟨w.heap.size,0,none⟩) 1 1) [x]:=by
 subst hW hk;exact World.ownsRow_lit (base:=base) (e:=5) (size:=1) w #[.int .u8 x.toNat] 1 hb ε rfl
theorem OwnB.low {w:World} {base base':Nat} {v:Value} {b:List UInt8} (h:OwnB w base v b) (hb:base'<=base):OwnB w base' v b:=by
 obtain⟨hl,⟨he,hn⟩|⟨g,cap,cur,he,hg,hr⟩⟩:=h
 ·exact⟨hl,.inl ⟨he,hn⟩⟩
 ·exact⟨hl,.inr ⟨g,cap,cur,he,Nat.le_trans hb hg,hr⟩⟩
theorem TW {v:Value} {m:Ms} (w:World) (hv:Of Ty.ms w.cell? v m) (hk:0<=m.kind/\m.kind<256) (hl:m.parts.length<=4):
  Calls Tryz.prog 91 #[v] w fun e w'=>∃v',e=.returned v'/\OwnB w' w.heap.size v' (aS m)/\Grow w w':=by
 obtain⟨ap,cp,rfl⟩:=hv.fQ;obtain⟨hp,ik,id',ih⟩:=hv.iG;have hok:=m_.ok hp;have HKB:Hid (IntKind.u8.wrap m.kind=((UInt8.ofNat m.kind.toNat).toNat:Int)):=η (by rw [IntWalk.u8_in _ δ];exact G_ hk);have HI1:=η id';have HI2:=η ih;have HI3:Hid (I64 (m.parts.length:Int)):=η (iW δ δ);have EE:=η (iP (cZ id').1 (cZ id').2);have bS:=η (iP (cZ ih).1 (cZ ih).2);have Ht:=η (iP (cZ HI3.o).1 (cZ HI3.o).2);have KH:=η (fun k=>lV (l:=m.parts.take k) fun p hp=>hok p (List.mem_of_mem_take hp));have HM:Hid ((([UInt8.ofNat m.kind.toNat]++fU m.deed)++fU m.house)++fU (m.parts.length:Int)++m.parts.flatMap dK=dX m):=η (by unfold dX;simp);have lI:=η hp;obtain⟨hk0,hk1⟩:=hk;clear hv ik id' ih hok hp;go_enter Tryz.func91,Tryz.ntmps91;go_upto_region 1 with fail
 obtain⟨wa,cO⟩:∃x:World,x=w.alloc (.cells #[ι m.kind,ι m.deed,ι m.house,ς ap m.parts.length cp] 85):=⟨_,rfl⟩;have RA:Hid (wa.heap[w.heap.size]? =some (.cells #[ι m.kind,ι m.deed,ι m.house,ς ap m.parts.length cp] 85 (0,0))):=η (by rw [cO];exact aF _ _);have GA:Hid (Grow w wa):=η (by rw [cO];exact(Grow.refl w).alloc _);have ZA:Hid (wa.heap.size=w.heap.size+1):=η (by rw [cO];simp);rw [<-cO];clear cO;go_cut [3] from 15 (fun bv wc=>OwnB wc (w.heap.size+1) bv ([UInt8.ofNat m.kind.toNat]++fU m.deed)/\Grow w wc/\wc.heap[w.heap.size]? =some (.cells #[ι m.kind,ι m.deed,ι m.house,ς ap m.parts.length cp] 85 (0,0)))
 case first=>
  refine bf (fun w'=>w'.cell? ⟨w.heap.size,0,none⟩=some (ι m.kind)/\w'.cell? ⟨w.heap.size,1,none⟩=some (ι m.deed)) 8 κ ?_;obtain⟨wd,hWd⟩:∃x:World,x=wa.drew:=⟨_,rfl⟩;rw [<-hWd];have GD:Grow wa wd:=by rw [hWd];exact(Grow.refl _).drew
  have zD:wa.heap.size=wd.heap.size:=by rw [hWd];rfl
  have ZD:=η zD;clear hWd zD;refine ni [0,1,2,4,5] 12 κ (fun _ _ _ _ _ h=>h) (⟨(cells4 (aj RA.o GD)).1,(cells4 (aj RA.o GD)).2.1⟩) ?_;repeat (refine gQ ?_;try simp only [aK])
  refine ny ?_;refine bP 3 6 κ rfl rfl ?_ ?_
  ·intro K HK
   try simp only [aV]
   go_simp;obtain⟨wl,hwl⟩:∃x:World,x=wd.alloc (.cells #[.int .u8 (IntKind.u8.wrap m.kind)] 5):=⟨_,rfl⟩;have QX:=η (uB (base:=w.heap.size+1) (k:=IntKind.u8.wrap m.kind) HKB.o (by have:=ZA.o;have:=GD.size;omega) hwl);have GL:Grow wd wl:=by rw [hwl];exact(Grow.refl _).alloc _
   have RL:=η (aj (aj RA.o GD) GL);have EQ:Grow wa wl:=Grow.trans GD GL;rw [<-hwl];clear hwl;refine HK.o _ _ ⟨fun _=>⟨(cells4 RL.o).1,(cells4 RL.o).2.1⟩,?_⟩;clear HK K;try simp only [aK]
   refine bO 6 κ rfl ?_;intro K HK;try simp only [aV]
   go_simp;go_at_call 127
   refine(mW _ HI1.o).mono ?_;rintro e wn ⟨vn,rfl,hon,hbn⟩;have FY:=η hon;have RN:=η (aj RL.o hbn);have GN:=η hbn;have uC:Grow wa wn:=Grow.trans EQ hbn;clear hon hbn;refine HK.o _ _ ⟨fun _=>⟨(cells4 RN.o).1,(cells4 RN.o).2.1⟩,?_⟩;clear HK K;try simp only [aK]
   refine bO 7 κ rfl ?_;intro K HK;refine aC rfl ?_;try simp only [aV]
   refine K_ (.tmp 10) (.tmp 13) rfl rfl (OwnB.grow QX.o GN.o) (by have:=ZA.o;have:=uC.size;omega) rfl FY.o (by have:=EE.o;simp;omega) ?_;intro v7 w7 r_ OT;have uU:=η r_;have R7:=η (OT.row RN.o (fun q hq=>by have:=(OwnB.low (OwnB.grow QX.o GN.o) (Nat.le_refl _)).lt q hq;omega));have G7:=η (OT.all (GA.o.trans uC) (fun q hq=>by have:=World.ownsRow.lt (OwnB.grow QX.o GN.o) q hq;omega));clear r_ OT;refine HK.o _ _ ⟨fun _=>⟨(cells4 R7.o).1,(cells4 R7.o).2.1⟩,?_⟩;clear HK K;try simp only [aK]
   refine bO 8 κ rfl ?_;intro K HK;try simp only [aV]
   go_simp;refine HK.o _ _ ⟨fun h=>absurd rfl h,?_⟩;clear HK K;try simp only [aK]
   refine aO κ ?_;go_wp2;go_meet
   case rel=>exact⟨uU.o,G7.o,R7.o⟩
  ·intro K HK
   try simp only [aV]
   go_simp;go_at_call 127
   refine(mW _ HI1.o).mono ?_;rintro e wn ⟨vn,rfl,hon,hbn⟩;have FY:=η hon;have RN:=η (aj (aj RA.o GD) hbn);have GN:=η hbn;have uC:Grow wa wn:=Grow.trans GD hbn;clear hon hbn;refine HK.o _ _ ⟨fun _=>⟨(cells4 RN.o).1,(cells4 RN.o).2.1⟩,?_⟩;clear HK K;try simp only [aK]
   refine bO 3 κ rfl ?_;intro K HK;try simp only [aV]
   go_simp;obtain⟨wl,hwl⟩:∃x:World,x=wn.alloc (.cells #[.int .u8 (IntKind.u8.wrap m.kind)] 5):=⟨_,rfl⟩;have QX:=η (uB (base:=w.heap.size+1) (k:=IntKind.u8.wrap m.kind) HKB.o (by have:=ZA.o;have:=uC.size;omega) hwl);have GL:Grow wn wl:=by rw [hwl];exact(Grow.refl _).alloc _
   have RL:=η (aj RN.o GL);have EQ:Grow wa wl:=Grow.trans uC GL;rw [<-hwl];clear hwl;refine HK.o _ _ ⟨fun _=>⟨(cells4 RL.o).1,(cells4 RL.o).2.1⟩,?_⟩;clear HK K;try simp only [aK]
   refine bO 7 κ rfl ?_;intro K HK;refine aC rfl ?_;try simp only [aV]
   refine K_ (.tmp 10) (.tmp 13) rfl rfl QX.o (by have:=ZA.o;have:=EQ.size;omega) rfl (OwnB.grow FY.o GL) (by have:=EE.o;simp;omega) ?_;intro v7 w7 r_ OT;have uU:=η r_;have R7:=η (OT.row RL.o (fun q hq=>by have:=(OwnB.low QX.o (Nat.le_refl _)).lt q hq;omega));have G7:=η (OT.all (GA.o.trans EQ) (fun q hq=>by have:=World.ownsRow.lt QX.o q hq;omega));clear r_ OT;refine HK.o _ _ ⟨fun _=>⟨(cells4 R7.o).1,(cells4 R7.o).2.1⟩,?_⟩;clear HK K;try simp only [aK]
   refine bO 8 κ rfl ?_;intro K HK;try simp only [aV]
   go_simp;refine HK.o _ _ ⟨fun h=>absurd rfl h,?_⟩;clear HK K;try simp only [aK]
   refine aO κ ?_;go_wp2;go_meet
   case rel=>exact⟨uU.o,G7.o,R7.o⟩
 case rest=>
  obtain⟨ho,hg,hr⟩:=hcut;obtain⟨a1,k1,rfl⟩:=aY ho;have HO:=η ho;have HG:=η hg;have HR:=η hr;have HLP:Hid (([UInt8.ofNat m.kind.toNat]++fU m.deed).length<=11):=η (by have:=EE.o;simp;omega);clear ho hg hr RA GA ZA HKB EE HI1;generalize [UInt8.ofNat m.kind.toNat]++fU m.deed=pre at*;have HZC:Hid (w.heap.size<wc):=η (γ HR.o);go_upto_region 2 with fail
  have og:Hid (∀q:Nat,True):=η (fun _=>trivial);refine bf (fun w'=>w'.cell? ⟨w.heap.size,2,none⟩=some (ι m.house)/\w'.cell? ⟨w.heap.size,3,none⟩=some (ς ap m.parts.length cp)) 10 κ ?_;obtain⟨wd,hWd⟩:∃x:World,x=wc.drew:=⟨_,rfl⟩;rw [<-hWd];have GD:Grow wc wd:=by rw [hWd];exact(Grow.refl _).drew
  have zD:wc.heap.size=wd.heap.size:=by rw [hWd];rfl
  have ZD:=η zD;clear hWd zD;refine ni [0,1,2,5,6,7] 14 κ (fun _ _ _ _ _ h=>h) (⟨(cells4 (aj HR.o GD)).2.2.1,(cells4 (aj HR.o GD)).2.2.2⟩) ?_;repeat (refine gQ ?_;try simp only [aK])
  refine ny ?_;refine bO 3 κ rfl ?_;intro K HK;try simp only [aV]
  go_simp;go_at_call 127
  refine(mW _ HI2.o).mono ?_;rintro e w3 ⟨v3,rfl,ho3,hb3⟩;have nC:=η ho3;have R3:=η (aj (aj HR.o GD) hb3);have K7:=Grow.trans (Grow.trans HG.o GD) hb3;have oX:=η (OwnB.grow (OwnB.grow HO.o GD) hb3);clear ho3 hb3;refine HK.o _ _ ⟨fun _=>⟨(cells4 R3.o).2.2.1,(cells4 R3.o).2.2.2⟩,?_⟩;clear HK K;try simp only [aK]
  refine bO 4 κ rfl ?_;intro K HK;refine aC rfl ?_;try simp only [aV]
  refine K_ (.tmp 15) (.tmp 18) rfl rfl oX.o (γ R3.o) rfl nC.o (by have:=HLP.o;have:=bS.o;omega) ?_;intro v4 w4 pO hm4;obtain⟨a4,k4,rfl⟩:=aY pO;have FB:=η pO;have R4:=η (hm4.row R3.o (fun q hq=>by have:=World.ownsRow.lt oX.o q hq;have:=og.o q;omega));have K8:=hm4.all K7 (fun q hq=>by have:=World.ownsRow.lt oX.o q hq;omega);clear pO hm4;have a_:Hid ((pre++fU m.house).length<=21):=η (by have:=HLP.o;have:=bS.o;rw [List.length_append];omega);generalize pre++fU m.house=YR at*;refine HK.o _ _ ⟨fun _=>⟨(cells4 R4.o).2.2.1,(cells4 R4.o).2.2.2⟩,?_⟩;clear HK K;try simp only [aK]
  refine bO 8 κ rfl ?_;intro K HK;try simp only [aV]
  go_simp;go_at_call 127
  refine(mW _ HI3.o).mono ?_;rintro e w8 ⟨v8,rfl,kV,hb8⟩;have qX:=η kV;have R8:=η (aj R4.o hb8);have K9:=Grow.trans K8 hb8;have Zf:=η (OwnB.grow FB.o hb8);clear kV hb8;refine HK.o _ _ ⟨fun _=>⟨(cells4 R8.o).2.2.1,(cells4 R8.o).2.2.2⟩,?_⟩;clear HK K;try simp only [aK]
  refine bO 9 κ rfl ?_;intro K HK;refine aC rfl ?_;try simp only [aV]
  refine K_ (.tmp 19) (.tmp 23) rfl rfl Zf.o (γ R8.o) rfl qX.o (by have:=a_.o;have:=Ht.o;omega) ?_;intro v9 w9 fB YS;obtain⟨a9,k9,rfl⟩:=aY fB;have iF:=η fB;have R9:=η (YS.row R8.o (fun q hq=>by have:=World.ownsRow.lt Zf.o q hq;have:=og.o q;omega));have GG9:=YS.all K9 (fun q hq=>by have:=World.ownsRow.lt Zf.o q hq;omega);clear fB YS;have EV:Hid ((YR++fU (m.parts.length:Int)).length<=31):=η (by have:=a_.o;have:=Ht.o;rw [List.length_append];omega);generalize YR++fU (m.parts.length:Int)=b0 at*;refine HK.o _ _ ⟨fun _=>⟨(cells4 R9.o).2.2.1,(cells4 R9.o).2.2.2⟩,?_⟩;clear HK K;try simp only [aK]
  refine bO 10 κ rfl ?_;intro K HK;try simp only [aV]
  go_simp;refine HK.o _ _ ⟨fun h=>absurd rfl h,?_⟩;clear HK K;try simp only [aK]
  refine aO κ ?_;have HB0:=η GG9;obtain⟨SV,cp',he,h1,h2,-,hel⟩:=lI.o;obtain⟨rfl,rfl⟩:ap=SV/\cp=cp':=by simpa using he
  unfold maxLen at h2;have LA:=η iF.o;have HR0:=η R9.o;obtain⟨c0,c1,c2,c3⟩:=cells4 HR0.o;have z0:w.heap.size<w9:=(γ HR0.o);clear he og;go_wp2;go_loopw [3,28] (fun bv i wr=>∃k:Nat,k<=m.parts.length/\i=ι k/\Grow w wr/\w.heap.size<wr/\OwnB wr (w.heap.size+1) bv (b0++(m.parts.take k).flatMap dK)) (fun _ i _=>m.parts.length - (intOf i).toNat)
  case atStart=>exact⟨0,δ,rfl,HB0.o,z0,by simpa using LA.o⟩
  case round=>
   obtain⟨k,hk',rfl,hb,hz,hown⟩:=hrel;obtain⟨a2,k2,rfl⟩:=aY hown;by_cases hlt:k<m.parts.length
   ·obtain⟨b,o,rfl,d0,d1,d2,-,i1,i2⟩:=m_.at_ hel k hlt
    replace d0:=hb.sub _ _ d0;replace d1:=hb.sub _ _ d1;replace d2:=hb.sub _ _ d2;have HN:=η (show b0++(m.parts.take (k+1)).flatMap dK=(b0++(m.parts.take k).flatMap dK++fU m.parts[k].k)++fU m.parts[k].n by
     rw [Ae dK hlt];simp [dK])
    have hlk:(m.parts.take k).length<=4:=by rw [List.length_take];omega
    have hln:(b0++(m.parts.take k).flatMap dK).length<=131:=by
     have:=KH.o k;have:=EV.o;rw [List.length_append];omega
    have wP:=η hln;have HJ1:=η i1;have HJ2:=η i2;have LB:=η (iP (cZ i1).1 (cZ i1).2);have TY:=η (iP (cZ i2).1 (cZ i2).2);have HOW:=η hown;have HB:=η hb;have HZ:=η hz;clear hel i1 i2 hlk hln hown hb c0 c1 c2 c3 EV LA;generalize b0++(m.parts.take k).flatMap dK=pr at*;generalize m.parts[k]=p at*;obtain⟨ph,pk,pn⟩:=p;simp only at d0 d1 d2 HJ1 HJ2 HN LB TY;have og:Hid (∀q,(Value.slice a2 pr.length k2).ownBlock=some q->q<wr.heap.size):=η (fun q hq=>(World.ownsRow.lt HOW.o q hq).2);have RP:=η (aF wr (.cells #[ι ph,ι pk,ι pn] 111));have oF:=η (HOW.o.grow ((Grow.refl wr).alloc (.cells #[ι ph,ι pk,ι pn] 111)));have oR:Hid (Grow w (wr.alloc (.cells #[ι ph,ι pk,ι pn] 111))):=η (HB.o.alloc _);go_upto_region 6 with fail
    obtain⟨wa,cO⟩:∃x:World,x=wr.alloc (.cells #[ι ph,ι pk,ι pn] 111):=⟨_,rfl⟩;rw [<-cO] at RP oF oR ⊢;have HZA:Hid (wa.heap.size=wr.heap.size+1):=η (by rw [cO];simp);clear cO;refine bf (fun w'=>w'.cell? ⟨wr.heap.size,1,none⟩=some (ι pk)/\w'.cell? ⟨wr.heap.size,2,none⟩=some (ι pn)) 9 κ ?_;obtain⟨wd,hWd⟩:∃x:World,x=wa.drew:=⟨_,rfl⟩;rw [<-hWd];have GD:Grow wa wd:=by rw [hWd];exact(Grow.refl _).drew
    have zD:wa.heap.size=wd.heap.size:=by rw [hWd];rfl
    have ZD:=η zD;clear hWd zD;refine ni [0,1,2,5,6] 13 κ (fun _ _ _ _ _ h=>h) (⟨(cells3 (aj RP.o GD)).2.1,(cells3 (aj RP.o GD)).2.2⟩) ?_;repeat (refine gQ ?_;try simp only [aK])
    refine ny ?_;refine bO 3 κ rfl ?_;intro K HK;try simp only [aV]
    go_simp;go_at_call 127
    refine(mW _ HJ1.o).mono ?_;rintro e w3 ⟨v3,rfl,ho3,hb3⟩;have nC:=η ho3;have R3:=η (aj (aj RP.o GD) hb3);have K7:=Grow.trans (Grow.trans oR.o GD) hb3;have oX:=η (OwnB.grow (OwnB.grow oF.o GD) hb3);clear ho3 hb3;refine HK.o _ _ ⟨fun _=>⟨(cells3 R3.o).2.1,(cells3 R3.o).2.2⟩,?_⟩;clear HK K;try simp only [aK]
    refine bO 4 κ rfl ?_;intro K HK;refine aC rfl ?_;try simp only [aV]
    refine K_ (.tmp 32) (.tmp 35) rfl rfl oX.o (by have:=(γ R3.o);have:=HZ.o;omega) rfl nC.o (by have:=wP.o;have:=LB.o;omega) ?_;intro v4 w4 pO hm4;obtain⟨a4,k4,rfl⟩:=aY pO;have FB:=η pO;have R4:=η (hm4.row R3.o (fun q hq=>by have:=og.o q hq;omega));have K8:=hm4.all K7 (fun q hq=>by have:=World.ownsRow.lt oX.o q hq;omega);have LE:Hid (∀q,(Value.slice a4 (pr++fU pk).length k4).ownBlock=some q->q≠wr.heap.size):=η (fun q hq=>by
     have hz2:=(γ R3.o);rcases hm4.2 with e|⟨g,e,hg⟩
     ·rw [e] at hq;have:=og.o q hq;omega
     ·rw [e] at hq;obtain rfl:=Option.some.inj hq;omega)
    clear pO hm4;have a_:Hid ((pr++fU pk).length<=141):=η (by have:=wP.o;have:=LB.o;rw [List.length_append];omega);generalize pr++fU pk=pr4 at*;refine HK.o _ _ ⟨fun _=>⟨(cells3 R4.o).2.1,(cells3 R4.o).2.2⟩,?_⟩;clear HK K;try simp only [aK]
    refine bO 7 κ rfl ?_;intro K HK;try simp only [aV]
    go_simp;go_at_call 127
    refine(mW _ HJ2.o).mono ?_;rintro e w7 ⟨v7,rfl,r_,hb7⟩;have uU:=η r_;have R7:=η (aj R4.o hb7);have GG7:=Grow.trans K8 hb7;have HP7:=η (OwnB.grow FB.o hb7);clear r_ hb7;refine HK.o _ _ ⟨fun _=>⟨(cells3 R7.o).2.1,(cells3 R7.o).2.2⟩,?_⟩;clear HK K;try simp only [aK]
    refine bO 8 κ rfl ?_;intro K HK;refine aC rfl ?_;try simp only [aV]
    refine K_ (.tmp 36) (.tmp 39) rfl rfl HP7.o (by have:=(γ R7.o);have:=HZ.o;omega) rfl uU.o (by have:=a_.o;have:=TY.o;omega) ?_;intro v8 w8 kV LF;obtain⟨a8,k8,rfl⟩:=aY kV;have qX:=η kV;have R8:=η (LF.row R7.o (fun q hq=>by have:=LE.o q hq;omega));have K9:=LF.all GG7 (fun q hq=>by have:=World.ownsRow.lt HP7.o q hq;omega);clear kV LF;generalize pr4++fU pn=pr8 at*;refine HK.o _ _ ⟨fun _=>⟨(cells3 R8.o).2.1,(cells3 R8.o).2.2⟩,?_⟩;clear HK K;try simp only [aK]
    refine bO 9 κ rfl ?_;intro K HK;try simp only [aV]
    go_simp;refine HK.o _ _ ⟨fun h=>absurd rfl h,?_⟩;clear HK K;try simp only [aK]
    refine aO κ ?_;go_wp2;go_roundw
    case rel=>exact⟨k+1,δ,by go_num,K9,by have:=HZ.o;have:=(γ R8.o);omega,by rw [HN.o];exact qX.o⟩
    case measure=>simp [intOf];omega
   ·rw [List.take_of_length_le δ,HM.o] at hown ⊢
    have HOW:=η hown;have HB:=η hb;have HZ:=η hz;have sI:Hid ((dX m).length<=111):=η (by
     rw [<-HM.o,List.length_append];have:=KH.o m.parts.length;rw [List.take_of_length_le (Nat.le_refl _)] at this;have:=EV.o;omega)
    obtain⟨z1,hz1⟩:∃z,z=UInt8.ofNat (qW (dX m)/256):=⟨_,rfl⟩;obtain⟨z2,hz2⟩:∃z,z=UInt8.ofNat (qW (dX m)):=⟨_,rfl⟩;have hs1:=yJ (dX m);have UE:Hid ((qW (dX m):Int)/256=(z1.toNat:Int)):=η (by rw [hz1,mV];omega);have HS2:Hid ((qW (dX m):Int) % 256=(z2.toNat:Int)):=η (by rw [hz2,mV];omega);have sL:Hid (dX m++ [z1,z2]=aS m):=η (by rw [hz1,hz2];rfl);have eM:=η (fun(W:World) (hW:Grow wr W)=>QS W ((HOW.o.grow hW).GT));clear hel hown hb hz hz1 hz2 c0 c1 c2 c3 EV LA;generalize qW (dX m)=s at*;generalize dX m=hd at*;go_wp2_with fail
    refine(eM.o _ (Grow.refl _)).mono ?_;rintro e w7 ⟨rfl,hb7⟩;have uU:=η (HOW.o.grow hb7);have wZ:=η (HB.o.trans hb7);have eO:w.heap.size+1<=w7.heap.size:=by have:=hb7.size;have:=HZ.o;omega
    clear hb7;go_wp2_with (at_builtin;refine Lr rfl _ _ rfl rfl uU.o eO rfl rfl [z1,z2] ?e0 rfl ?e1 ?_)
    case e0=>exact two_bytes (by first|exact UE.o|(rw [<-UE.o];omega)) (by first|exact HS2.o|(rw [<-HS2.o];omega))
    case e1=>have:=sI.o;simp;omega
    intro v9 w9 fB YS;have iF:=η (OwnB.low (base':=w.heap.size) fB δ);have sU:=η (YS.all wZ.o (fun q hq=>by have:=World.ownsRow.lt uU.o q hq;omega));clear fB YS;go_wp2;go_ret;exact⟨_,rfl,by rw [<-sL.o];exact iF.o,sU.o⟩
theorem OU {l:List (List UInt8)} {ms:List Ms} {k:Nat} (h:24<=(gX l (ms.take k)).length):gX l ms=gX l (ms.take k):=by
 rw [Hl,List.length_take] at h;unfold gX;rw [List.take_take];by_cases hk:24 - l.length<=k
 ·rw [Nat.min_eq_left hk]
 ·have:ms.length<=k:=by omega
  rw [List.take_of_length_le (i:=24 - l.length) δ,List.take_of_length_le δ]
def Jj (k:Int) (D:List Rd) (done:List Int):Sm:=
 done.foldl (fun s d=>match D.find? (kD d) with|some r=>nJ s (jF r.parts k)|none=>s) ⟨0,0,0,0⟩
structure bX (G:Reg) (n:Int):Prop where
 nd:(G.map (·.1)).Nodup
 ok:∀x∈G,0<=x.1/\bD x.2 n=0
structure L9 (G:Reg) (D:List Rd):Prop where
 reg:∀r∈D,(r.deed,r.parts)∈G
 nd:(D.map (·.deed)).Nodup
structure HI (G:Reg) (D:List Rd) (k:Int) (h:Hs):Prop where
 calm:Calm h
 reg:∀r∈h.ready,∃P,(r.deed,P)∈G/\r.parts=jF P k/\r.parts≠ []
 fits:∀r∈h.ready,jy h.sums.get r.parts=0
 right:wX h.sums=true
 done:∀d∈h.done,∃r∈D,r.deed=d/\jF r.parts k≠ []
 nodup:h.done.Nodup
 apart:∀r∈h.ready,r.deed∉h.done
 sums:h.sums=Jj k D h.done
 add:∀q:Int,0<=q->q<4->h.sums.get q=tot k q (D.filter fun r=>decide (r.deed∈h.done))
 log:∀r∈h.log,KC r=true
theorem rV {G:Reg} (h:(G.map (·.1)).Nodup):∀{d:Int} {P Q:List Pt},(d,P)∈G->(d,Q)∈G->P=Q:=by
 induction G with
 |nil=>intro d P Q h;simp at h
 |cons x G ih=>
  intro d P Q h1 h2;rw [List.map_cons,List.nodup_cons] at h;rcases List.mem_cons.1 h1 with e1|h1<;>rcases List.mem_cons.1 h2 with e2|h2
  ·rw [<-e1] at e2;exact(Prod.mk.inj e2).2.symm
  ·exact absurd (List.mem_map.2 ⟨_,h2,by rw [<-e1]⟩) h.1
  ·exact absurd (List.mem_map.2 ⟨_,h1,by rw [<-e2]⟩) h.1
  ·exact ih h.2 h1 h2
theorem Wp {D:List Rd} (h:(D.map (·.deed)).Nodup) {r:Rd} (hr:r∈D):D.find? (kD r.deed)=some r:=by
 induction D with
 |nil=>simp at hr
 |cons x D ih=>
  rw [List.map_cons,List.nodup_cons] at h;rcases List.mem_cons.1 hr with rfl|hr
  ·rw [List.find?_cons_of_pos (by simp [kD])]
  ·rw [List.find?_cons_of_neg (by simp [kD];exact fun e=>h.1 (List.mem_map.2 ⟨r,hr,e.symm⟩))]
   exact ih h.2 hr
theorem L_ {k q:Int} {r:Rd}:∀{D:List Rd} {done:List Int},(D.map (·.deed)).Nodup->r∈D->r.deed∉done->
  tot k q (D.filter fun x=>decide (x.deed∈done++ [r.deed]))=tot k q (D.filter fun x=>decide (x.deed∈done))+amt k q r.parts
 | [],done,_,h,_=>by simp at h
 |x::D,done,hn,h,hd=>by
  rw [List.map_cons,List.nodup_cons] at hn;rcases List.mem_cons.1 h with rfl|h
  ·have e:(D.filter fun x=>decide (x.deed∈done++ [r.deed]))=D.filter fun x=>decide (x.deed∈done):=by
    refine List.filter_congr fun y hy=>?_;have hne:y.deed≠r.deed:=fun e=>hn.1 (List.mem_map.2 ⟨y,hy,e⟩);simp [hne]
   rw [List.filter_cons_of_pos σ,List.filter_cons_of_neg (by simpa using hd),tot,e];omega
  ·have ih:=L_ (k:=k) (q:=q) hn.2 h hd
   have hne:x.deed≠r.deed:=fun e=>hn.1 (List.mem_map.2 ⟨r,h,e.symm⟩);by_cases hx:x.deed∈done
   ·rw [List.filter_cons_of_pos (by simp [hx]),List.filter_cons_of_pos (by simp [hx]),tot,tot,ih];omega
   ·rw [List.filter_cons_of_neg (by simp [hx,hne]),List.filter_cons_of_neg (by simp [hx]),ih]
theorem mem_erase {l:List Rd} {d:Int} (hn:(l.map (·.deed)).Nodup) {r:Rd} (h:r∈l.eraseP (kD d)):r∈l/\r.deed≠d:=by
 refine⟨List.eraseP_sublist.subset h,fun e=>?_⟩;have:=KP (d:=d) hn;unfold bM at this;rw [List.any_eq_false] at this;exact this r h (by simp [kD,e])
theorem Ai {h:Hs} (hm:Made h) (r:Rc):(dV h r).sums=(dH h r).sums:=by rw [zQ hm]
theorem HI.hear {G:Reg} {D:List Rd} {k:Int} {h:Hs} {n:Int} (hi:HI G D k h) (hg:bX G n) (hd:L9 G D) {m:Ms} (hm:jg m) (hk:m.house=k)
  (h1:m.kind=1->∃P,(m.deed,P)∈G/\m.parts=jF P k/\m.parts≠ []) (h4:m.kind=4->∃r∈D,r.deed=m.deed/\jF r.parts k≠ []):HI G D k (bg h m):=by
 have hc:=Ti hi.calm hm;obtain⟨kind,d,house,ps⟩:=m;simp only at hk;subst hk;have pU:=hi.calm.made;by_cases k1:kind=1
 ·subst k1
  by_cases hv:dU h d ps=0/\bM h.ready d=false
  ·have e:bg h ⟨1,d,house,ps⟩=dV h ⟨1,d,ps⟩:=by unfold bg;rw [if_pos rfl,if_pos hv]
   rw [e] at hc ⊢;obtain⟨P,hP,hps,hne⟩:=h1 rfl;simp only at hP hps hne;have hnd:d∉h.done:=by
    intro hx;have:=hv.1;unfold dU at this;rw [if_pos hx] at this;cases this
   have hfit:jy h.sums.get ps=0:=by
    have:=hv.1;unfold dU at this;rw [if_neg hnd,if_neg (by simp [hv.2])] at this;split at this
    ·cases this
    ·exact this
   obtain⟨e1,e2⟩:=QH pU ps hv.2;have e3:(dV h ⟨1,d,ps⟩).sums=h.sums:=by rw [Ai pU,zW,yC hv.2]
   refine⟨hc,?_,?_,by rw [e3];exact hi.right,by rw [e2];exact hi.done,by rw [e2];exact hi.nodup,?_,by rw [e3,e2];exact hi.sums,by rw [e3,e2];exact hi.add,?_⟩
   ·rw [e1]
    intro r hr;rcases List.mem_append.1 hr with hr|hr
    ·exact hi.reg r hr
    ·obtain rfl:=List.mem_singleton.1 hr
     exact⟨P,hP,hps,hne⟩
   ·rw [e1,e3]
    intro r hr;rcases List.mem_append.1 hr with hr|hr
    ·exact hi.fits r hr
    ·obtain rfl:=List.mem_singleton.1 hr
     exact hfit
   ·rw [e1,e2]
    intro r hr;rcases List.mem_append.1 hr with hr|hr
    ·exact hi.apart r hr
    ·obtain rfl:=List.mem_singleton.1 hr
     exact hnd
   ·rw [Le]
    intro r hr;rcases List.mem_append.1 hr with hr|hr
    ·exact hi.log r hr
    ·obtain rfl:=List.mem_singleton.1 hr
     have hp:=hm.parts rfl;have hdd:=hm.deed;simp only at hp hdd;unfold KC;rw [decide_eq_true_eq];exact⟨hdd.1,fun _=>hp.1,fun _=>hne⟩
  ·rw [show bg h ⟨1,d,house,ps⟩=h by unfold bg;rw [if_pos rfl,if_neg hv]]
   exact hi
 have hdd:=hm.deed;simp only at hdd;have nY:∀kd:Int,kd≠1->∀r∈(dV h ⟨kd,d,[]⟩).log,KC r=true:=by
  intro kd hkd;rw [Le];intro r hr;rcases List.mem_append.1 hr with hr|hr
  ·exact hi.log r hr
  ·obtain rfl:=List.mem_singleton.1 hr
   unfold KC;rw [decide_eq_true_eq];exact⟨hdd.1,fun h=>absurd rfl h,fun h=>absurd h hkd⟩
 by_cases k4:kind=4
 ·subst k4
  by_cases hr:bM h.ready d=true
  ·have e:bg h ⟨4,d,house,ps⟩=dV h ⟨2,d,[]⟩:=by unfold bg;simp [hr]
   rw [e] at hc ⊢;obtain⟨e1,e2⟩:=Gw pU hr;obtain⟨x,hx⟩:=mP hr;have hxm:=List.mem_of_find?_eq_some hx;have hxd:x.deed=d:=Du hx;obtain⟨P,hP,hxp,hxne⟩:=hi.reg x hxm;obtain⟨r,o4,hrd,LO⟩:=h4 rfl;simp only at hrd;have hrG:=hd.reg r o4;rw [hrd,<-hxd] at hrG;obtain rfl:P=r.parts:=rV hg.nd hP hrG;have hw:=(hg.ok _ hP).2;simp only at hw;have e3:(dV h ⟨2,d,[]⟩).sums=nJ h.sums (jF r.parts house):=by
    rw [Ai pU,zW,hx];simp [hxp]
   have hfit:=hi.fits x hxm;rw [hxp] at hfit;have hget:=(DJ hw hi.right house).1 hfit;have hsum:∀q:Int,0<=q->q<4->(nJ h.sums (jF r.parts house)).get q=h.sums.get q+amt house q r.parts:=fun q a b=>QJ hw hi.right house a b;have hnd:d∉h.done:=by rw [<-hxd];exact hi.apart x hxm
   refine⟨hc,?_,?_,?_,?_,?_,?_,?_,?_,nY 2 ε⟩
   ·rw [e1]
    exact fun y hy=>hi.reg y (mem_erase hi.calm.fine.nodup hy).1
   ·rw [e1,e3]
    intro y hy;obtain⟨hy1,hy2⟩:=mem_erase hi.calm.fine.nodup hy;rw [<-hi.fits y hy1];obtain⟨Q,hQ,hyp,-⟩:=hi.reg y hy1;have hwQ:=(hg.ok _ hQ).2;simp only at hwQ;refine DK fun p hp=>?_;rw [hyp] at hp;have hpk:=I5 hwQ house p hp;rw [hsum p.k hpk.1 hpk.2];have hz:has house p.k r.parts=false:=by
     cases hh:has house p.k r.parts with
     |false=>rfl
     |true=>
      have k1:=uN hi.calm.apart x hxm (by rw [hxp];exact DT hh);have k2:=uN (key:=p.k) hi.calm.apart y hy1 (by rw [hyp];exact List.mem_map.2 ⟨p,hp,rfl⟩);exact absurd (by rw [<-k2,k1,hxd]) hy2
    rw [DC hz];omega
   ·rw [e3]
    exact pJ.2 fun q a b=>by rw [hsum q a b];exact hget q a b
   ·rw [e2]
    intro y hy;rcases List.mem_append.1 hy with hy|hy
    ·exact hi.done y hy
    ·obtain rfl:=List.mem_singleton.1 hy
     exact⟨r,o4,hrd,LO⟩
   ·rw [e2,List.nodup_append]
    refine⟨hi.nodup,σ,fun a ha b hb e=>?_⟩;rw [e,List.mem_singleton.1 hb] at ha;exact hnd ha
   ·rw [e1,e2]
    intro y hy;obtain⟨hy1,hy2⟩:=mem_erase hi.calm.fine.nodup hy;simp only [List.mem_append,List.mem_singleton,not_or];exact⟨hi.apart y hy1,hy2⟩
   ·rw [e3,e2]
    unfold Jj;rw [List.foldl_append];show _=(match D.find? (kD d) with|some r=>nJ (Jj house D h.done) (jF r.parts house)|none=>_);rw [<-hrd,Wp hd.nd o4];simp only;rw [<-hi.sums]
   ·intro q a b
    rw [e3,e2,hsum q a b,hi.add q a b];have:=L_ (k:=house) (q:=q) hd.nd o4 (done:=h.done) (by rw [hrd];exact hnd);rw [hrd] at this;rw [this]
  ·rw [show bg h ⟨4,d,house,ps⟩=h by unfold bg;simp [hr]]
   exact hi
 by_cases k5:kind=5
 ·subst k5
  by_cases hr:bM h.ready d=true
  ·have e:bg h ⟨5,d,house,ps⟩=dV h ⟨3,d,[]⟩:=by unfold bg;simp [hr]
   rw [e] at hc ⊢;obtain⟨e1,e2⟩:=Vx pU hr;obtain⟨x,hx⟩:=mP hr;have e3:(dV h ⟨3,d,[]⟩).sums=h.sums:=by rw [Ai pU,zW,hx];simp
   have hsub:∀y∈h.ready.eraseP (kD d),y∈h.ready:=fun y hy=>List.eraseP_sublist.subset hy;exact⟨hc,by rw [e1];exact fun y hy=>hi.reg y (hsub y hy),by rw [e1,e3];exact fun y hy=>hi.fits y (hsub y hy),by rw [e3];exact hi.right,by rw [e2];exact hi.done,by rw [e2];exact hi.nodup,
    by rw [e1,e2];exact fun y hy=>hi.apart y (hsub y hy),by rw [e3,e2];exact hi.sums,by rw [e3,e2];exact hi.add,nY 3 ε⟩
  ·rw [show bg h ⟨5,d,house,ps⟩=h by unfold bg;simp [hr]]
   exact hi
 ·rw [show bg h ⟨kind,d,house,ps⟩=h by unfold bg;simp [k1,k4,k5]]
  exact hi
theorem HI.more {G G':Reg} {D:List Rd} {k:Int} {h:Hs} (hi:HI G D k h) (hG:∀x∈G,x∈G'):HI G' D k h:=
 ⟨hi.calm,fun r hr=>by obtain⟨P,a,b⟩:=hi.reg r hr;exact⟨P,hG _ a,b⟩,hi.fits,hi.right,hi.done,hi.nodup,hi.apart,hi.sums,hi.add,hi.log⟩
theorem BP {k:Int} {D:List Rd} {r:Rd}:∀{done:List Int} (s:Sm),(∀d∈done,∃r∈D,r.deed=d)->
  done.foldl (fun s d=>match (D++ [r]).find? (kD d) with|some r=>nJ s (jF r.parts k)|none=>s) s=done.foldl (fun s d=>match D.find? (kD d) with|some r=>nJ s (jF r.parts k)|none=>s) s
 | [],s,_=>rfl
 |d::done,s,h=>by
  obtain⟨x,hx,hd⟩:=h d List.mem_cons_self;have:(D.find? (kD d)).isSome=true:=by rw [List.find?_isSome];exact⟨x,hx,by simp [kD,hd]⟩
  obtain⟨y,hy⟩:=Option.isSome_iff_exists.1 this;rw [List.foldl_cons,List.foldl_cons,List.find?_append,hy];exact BP _ fun e he=>h e (List.mem_cons_of_mem _ he)
theorem HI.dec {G:Reg} {D:List Rd} {k:Int} {h:Hs} {r:Rd} (hi:HI G D k h) (hr:r.deed∉h.done):HI G (D++ [r]) k h:=by
 refine⟨hi.calm,hi.reg,hi.fits,hi.right,fun d hd=>?_,hi.nodup,hi.apart,?_,fun q a b=>?_,hi.log⟩
 ·obtain⟨x,hx,e⟩:=hi.done d hd
  exact⟨x,List.mem_append_left _ hx,e⟩
 ·unfold Jj
  rw [BP _ fun d hd=>by obtain⟨x,hx,e,-⟩:=hi.done d hd;exact⟨x,hx,e⟩];exact hi.sums
 ·rw [List.filter_append,List.filter_cons_of_neg (by simpa using hr),List.filter_nil,List.append_nil]
  exact hi.add q a b
theorem HI.zero (G:Reg) (D:List Rd) (k:Int):HI G D k hs0:=by
 refine⟨Tc,by intro r hr;simp [hs0,gu] at hr,by intro r hr;simp [hs0,gu] at hr,ε,by intro r hr;simp [hs0,gu] at hr,by simp [hs0,gu],by intro r hr;simp [hs0,gu] at hr,rfl,?_,by intro r hr;simp [hs0,gu] at hr⟩;intro q a b;have:(D.filter fun r=>decide (r.deed∈hs0.done))=[]:=by
  rw [List.filter_eq_nil_iff];intro x _;simp [hs0,gu]
 rw [this];have hq:q=0∨q=1∨q=2∨q=3:=by omega
 rcases hq with rfl|rfl|rfl|rfl<;>rfl
def NU (hs:List Hs) (k d:Int):Prop:=∃h,hs[k.toNat]? =some h/\bM h.ready d=true
def Jk (hs:List Hs) (k d:Int):Prop:=∃h,hs[k.toNat]? =some h/\d∈h.done
structure Core (n:Nat) (G:Reg) (hd:Hd) (hs:List Hs):Prop where
 len:hs.length=n
 n3:1<=n/\n<=3
 reg:bX G n
 old:∀x∈G,x.1<64*hd.aG+hd.next
 aG:1<=hd.aG/\hd.aG<=20
 next:0<=hd.next/\hd.next<=64
 pV:(bT hd.log).aG=hd.aG
 tq:∀d P,(∃o∈(bT hd.log).opn,o.deed=d/\o.parts=P)↔∃o∈hd.opn,o.deed=d/\o.parts=P/\o.dec=true
 Mc:((bT hd.log).opn.map (·.deed)).Nodup
 qY:∀o∈(bT hd.log).opn,o.dec=true/\o.heard=[]
 NV:(hd.opn.map (·.deed)).Nodup
 nO:∀o∈hd.opn,(o.deed,o.parts)∈G
 wB:hd.opn.length<=12
 nP:∀o∈hd.opn,(o.dec=true↔∃r∈aW hd.log,r.deed=o.deed)
 onew:∀o∈hd.opn,o.heard.Nodup/\(∀k∈o.heard,k∈aX o.parts)/\o.heard.length<(aX o.parts).length
 wC:∀o∈hd.opn,o.dec=false->∀k∈o.heard,NU hs k o.deed
 wE:∀o∈hd.opn,o.dec=true->∀k∈o.heard,Jk hs k o.deed
 dec:L9 G (aW hd.log)
 held:∀r∈aW hd.log,∀k∈aX r.parts,NU hs k r.deed∨Jk hs k r.deed
 ends:∀r∈aW hd.log,(∀o∈hd.opn,o.deed≠r.deed)->∀k∈aX r.parts,Jk hs k r.deed
 house:∀(k:Nat) h,hs[k]? =some h->HI G (aW hd.log) k h
 ord:(aW hd.log).Pairwise fun r1 r2=>∀k q,has k q r1.parts=true->has k q r2.parts=true->Jk hs k r1.deed
 pre:∀A B,aW hd.log=A++B->∀k q,0<=tot k q A/\tot k q A<=1048576
structure qB (n:Nat) (G:Reg) (hd:Hd) (hs:List Hs) (m:Ms):Prop where
 right:jg m
 here:m.house<n
 reg:∃P,(m.deed,P)∈G/\m.house∈aX P/\(m.kind=1->m.parts=jF P m.house)
 yes:m.kind=2->∀o∈hd.opn,o.deed=m.deed->o.dec=false->NU hs m.house m.deed
 commit:m.kind=4->∃r∈aW hd.log,r.deed=m.deed
 abort:m.kind=5->((∀r∈aW hd.log,r.deed≠m.deed)/\∀o∈hd.opn,o.deed≠m.deed)∨Jk hs m.house m.deed
 ack:m.kind=6->Jk hs m.house m.deed
theorem CZ {hs:List Hs} {k:Int} {h h':Hs} (hk:hs[k.toNat]? =some h) (j:Int):(hs.set k.toNat h')[j.toNat]? =if j.toNat=k.toNat then some h' else hs[j.toNat]?:=by
 have hl:=(List.getElem?_eq_some_iff.1 hk).1;by_cases e:j.toNat=k.toNat
 ·rw [if_pos e,e,List.getElem?_set_self hl]
 ·rw [if_neg e,List.getElem?_set_ne (fun e'=>e e'.symm)]
theorem Jl {hs:List Hs} {k:Int} {h h':Hs} (hk:hs[k.toNat]? =some h) {j d:Int} (hr:NU hs j d) (hh:j.toNat=k.toNat->bM h.ready d=true->bM h'.ready d=true):NU (hs.set k.toNat h') j d:=by
 obtain⟨x,hx,hd⟩:=hr;unfold NU;rw [CZ hk];by_cases e:j.toNat=k.toNat
 ·rw [if_pos e]
  rw [e,hk] at hx;obtain rfl:=Option.some.inj hx;exact⟨_,rfl,hh e hd⟩
 ·rw [if_neg e];exact⟨x,hx,hd⟩
theorem Zg {hs:List Hs} {k:Int} {h h':Hs} (hk:hs[k.toNat]? =some h) (hh:∀d∈h.done,d∈h'.done) {j d:Int} (hr:Jk hs j d):Jk (hs.set k.toNat h') j d:=by
 obtain⟨x,hx,hd⟩:=hr;unfold Jk;rw [CZ hk];by_cases e:j.toNat=k.toNat
 ·rw [if_pos e]
  rw [e,hk] at hx;obtain rfl:=Option.some.inj hx;exact⟨_,rfl,hh _ hd⟩
 ·rw [if_neg e];exact⟨x,hx,hd⟩
theorem Core.Jm {n:Nat} {G:Reg} {hd:Hd} {hs:List Hs} (c:Core n G hd hs) {k:Int} {h:Hs} (h0:0<=k) (hk:hs[k.toNat]? =some h):HI G (aW hd.log) k h:=by
 have:=c.house k.toNat h hk;rwa [show((k.toNat:Nat):Int)=k by omega] at this
theorem Core.vk {n:Nat} {G:Reg} {hd:Hd} {hs:List Hs} (c:Core n G hd hs) {k d:Int} (h0:0<=k) (h:NU hs k d) {P:List Pt} (hP:(d,P)∈G):
  ∃h,hs[k.toNat]? =some h/\HI G (aW hd.log) k h/\(⟨d,jF P k⟩:Rd)∈h.ready/\d∉h.done:=by
 obtain⟨x,hx,hr⟩:=h;have hi:=c.Jm h0 hx;obtain⟨y,hy⟩:=mP hr;have hym:=List.mem_of_find?_eq_some hy;have uR:y.deed=d:=Du hy;obtain⟨Q,hQ,hp,-⟩:=hi.reg y hym;rw [uR] at hQ;obtain rfl:=rV c.reg.nd hQ hP;refine⟨x,hx,hi,?_,by rw [<-uR];exact hi.apart y hym⟩;rw [<-uR,<-hp];exact hym
theorem Core.Wq {n:Nat} {G:Reg} {hd:Hd} {hs:List Hs} (c:Core n G hd hs) {k d:Int} (h0:0<=k) (h:NU hs k d):¬Jk hs k d:=by
 rintro⟨y,hy,uR⟩;obtain⟨x,hx,hr⟩:=h;rw [hx] at hy;obtain rfl:=Option.some.inj hy;have hi:=c.Jm h0 hx;obtain⟨z,hz⟩:=mP hr;have:=hi.apart z (List.mem_of_find?_eq_some hz);rw [Du hz] at this;exact this uR
theorem Core.Ws {n:Nat} {G:Reg} {hd:Hd} {hs:List Hs} (c:Core n G hd hs) {k d:Int} (h0:0<=k) (h:Jk hs k d):∃r∈aW hd.log,r.deed=d:=by
 obtain⟨x,hx,hr⟩:=h;obtain⟨r,a,b,-⟩:=(c.Jm h0 hx).done d hr;exact⟨r,a,b⟩
theorem Core.hear {n:Nat} {G:Reg} {hd:Hd} {hs:List Hs} (c:Core n G hd hs) {m:Ms} (hm:qB n G hd hs m) {h:Hs} (hk:hs[m.house.toNat]? =some h):
  Core n G hd (hs.set m.house.toNat (bg h m))/\(∀x,qB n G hd hs x->qB n G hd (hs.set m.house.toNat (bg h m)) x)/\∀x∈bG h m.house m,qB n G hd (hs.set m.house.toNat (bg h m)) x:=by
 have hk0:=hm.right.house.1;have hi:=c.Jm hk0 hk;obtain⟨P,hP,E6,hPp⟩:=hm.reg;have uW:=(kZ.1 E6).2;have pU:=hi.calm.made;have hi':HI G (aW hd.log) m.house (bg h m):=by
  refine hi.hear c.reg c.dec hm.right rfl (fun h1=>⟨P,hP,hPp h1,by rw [hPp h1];exact uW⟩) fun h4=>?_;obtain⟨r,hr,hrd⟩:=hm.commit h4;have:=c.dec.reg r hr;rw [hrd] at this;obtain rfl:=rV c.reg.nd this hP;exact⟨r,hr,hrd,uW⟩
 have A0b:=hi.calm.fine;have hdone:∀d∈h.done,d∈(bg h m).done:=by
  intro d hd';unfold bg;split
  ·split
   ·rename_i hv
    rw [(QH pU _ hv.2).2];exact hd'
   ·exact hd'
  ·split
   ·split
    ·rename_i hr
     rw [(Gw pU hr).2];exact List.mem_append_left _ hd'
    ·exact hd'
   ·split
    ·split
     ·rename_i hr
      rw [(Vx pU hr).2];exact hd'
     ·exact hd'
    ·exact hd'
 have OV:∀d,bM h.ready d=true->bM (bg h m).ready d=true∨(d=m.deed/\m.kind=4/\d∈(bg h m).done)∨(d=m.deed/\m.kind=5):=by
  intro d hr;unfold bg;split
  ·split
   ·rename_i hv
    left;rw [(QH pU _ hv.2).1];unfold bM at hr ⊢;rw [List.any_append,hr];rfl
   ·exact .inl hr
  ·split
   ·rename_i h4
    split
    ·rename_i hr2
     by_cases e:m.deed=d
     ·right;left
      refine⟨e.symm,h4,?_⟩;rw [(Gw pU hr2).2,<-e];simp
     ·left
      rw [(Gw pU hr2).1];exact Bo hr e
    ·exact .inl hr
   ·split
    ·rename_i h5
     split
     ·rename_i hr2
      by_cases e:m.deed=d
      ·exact .inr (.inr ⟨e.symm,h5⟩)
      ·left
       rw [(Vx pU hr2).1];exact Bo hr e
     ·exact .inl hr
    ·exact .inl hr
 have hyes:m.kind=1->dU h m.deed m.parts=0->bM (bg h m).ready m.deed=true:=by
  intro h1 hv;unfold bg;rw [if_pos h1];split
  ·rename_i hv2
   rw [(QH pU _ hv2.2).1];simp [bM,kD]
  ·rename_i hv2
   cases hr:bM h.ready m.deed with
   |true=>rfl
   |false=>exact absurd ⟨hv,hr⟩ hv2
 obtain⟨h',hh'⟩:∃x,x=bg h m:=⟨_,rfl⟩;rw [<-hh'] at hi' hdone OV hyes ⊢;have D1:∀{j d:Int},Jk hs j d->Jk (hs.set m.house.toNat h') j d:=fun hx=>Zg hk hdone hx;have LR:∀o∈hd.opn,o.dec=false->m.kind=4->o.deed≠m.deed:=by
  intro o ho hod h4 e;obtain⟨r,hr,hrd⟩:=hm.commit h4;have:=(c.nP o ho).2 ⟨r,hr,by rw [hrd,e]⟩;rw [hod] at this;cases this
 have hab:m.kind=5->bM h.ready m.deed=true->(∀r∈aW hd.log,r.deed≠m.deed)/\∀o∈hd.opn,o.deed≠m.deed:=by
  intro h5 hr;rcases hm.abort h5 with hx|hx
  ·exact hx
  ·exact absurd hx (c.Wq hk0 ⟨h,hk,hr⟩)
 have R1:∀{j d:Int},NU hs j d->(∃r∈aW hd.log,r.deed=d)->0<=j->NU (hs.set m.house.toNat h') j d∨Jk (hs.set m.house.toNat h') j d:=by
  intro j d hr hdD hj;by_cases e:j.toNat=m.house.toNat
  ·obtain rfl:j=m.house:=by omega
   obtain⟨x,hx,hxr⟩:=hr;rw [hk] at hx;obtain rfl:=Option.some.inj hx;rcases OV d hxr with h1|⟨h1,h2,h3⟩|⟨h1,h2⟩
   ·exact .inl (Jl hk ⟨h,hk,hxr⟩ fun _ _=>h1)
   ·right
    refine⟨h',?_,h3⟩;rw [CZ hk,if_pos rfl]
   ·subst h1
    obtain⟨r,o4,hrd⟩:=hdD;exact absurd hrd ((hab h2 hxr).1 r o4)
  ·exact .inl (Jl hk hr fun e'=>absurd e' e)
 have R2:∀{j d:Int},NU hs j d->(∃o∈hd.opn,o.deed=d/\o.dec=false)->NU (hs.set m.house.toNat h') j d:=by
  intro j d hr ⟨o,ho,hod,hoc⟩;refine Jl hk hr fun _ hxr=>?_;rcases OV d hxr with h1|⟨h1,h2,-⟩|⟨h1,h2⟩
  ·exact h1
  ·exact absurd (hod.trans h1) (LR o ho hoc h2)
  ·subst h1
   exact absurd hod ((hab h2 hxr).2 o ho)
 have hc':Core n G hd (hs.set m.house.toNat h'):={
  len:=by rw [List.length_set];exact c.len
  n3:=c.n3
  reg:=c.reg
  old:=c.old
  aG:=c.aG
  next:=c.next
  pV:=c.pV
  tq:=c.tq
  Mc:=c.Mc
  qY:=c.qY
  NV:=c.NV
  nO:=c.nO
  wB:=c.wB
  nP:=c.nP
  onew:=c.onew
  wC:=fun o ho hoc k hk'=>R2 (c.wC o ho hoc k hk') ⟨o,ho,rfl,hoc⟩
  wE:=fun o ho hoc k hk'=>D1 (c.wE o ho hoc k hk')
  dec:=c.dec
  held:=fun r hr k hk'=>by
   rcases c.held r hr k hk' with hx|hx
   ·exact R1 hx ⟨r,hr,rfl⟩ (τ ((kZ.1 hk').1))
   ·exact .inr (D1 hx)
  ends:=fun r hr ho k hk'=>D1 (c.ends r hr ho k hk')
  house:=fun k x hx=>by
   by_cases e:k=m.house.toNat
   ·subst e
    rw [List.getElem?_set_self (List.getElem?_eq_some_iff.1 hk).1] at hx;obtain rfl:=Option.some.inj hx;rwa [show((m.house.toNat:Nat):Int)=m.house by omega]
   ·rw [List.getElem?_set_ne (fun e'=>e e'.symm)] at hx
    exact c.house k x hx
  ord:=c.ord.imp fun hx k q h1 h2=>D1 (hx k q h1 h2)
  pre:=c.pre }
 have hM:∀x,qB n G hd hs x->qB n G hd (hs.set m.house.toNat h') x:=fun x hx=>{
  right:=hx.right
  here:=hx.here
  reg:=hx.reg
  yes:=fun h2 o ho hod hoc=>R2 (hx.yes h2 o ho hod hoc) ⟨o,ho,hod,hoc⟩
  commit:=hx.commit
  abort:=fun h5=>by
   rcases hx.abort h5 with hy|hy
   ·exact .inl hy
   ·exact .inr (D1 hy)
  ack:=fun h6=>D1 (hx.ack h6) }
 refine⟨hc',hM,?_⟩;have hget:(hs.set m.house.toNat h')[m.house.toNat]? =some h':=by rw [CZ hk,if_pos rfl]
 have hR:∀kd:Int,1<kd->kd<=7->jg ⟨kd,m.deed,m.house,[]⟩:=fun kd a b=>⟨⟨by show 1<=kd;omega,b⟩,hm.right.deed,hm.right.house,fun _=>rfl,fun e=>absurd (show kd=1 from e) δ⟩;intro x hx;unfold bG at hx;split at hx
 ·rename_i h1
  split at hx
  ·simp at hx
  ·split at hx
   ·rename_i hv
    obtain rfl:=List.mem_singleton.1 hx;exact⟨hR 2 δ δ,hm.here,⟨P,hP,E6,(fun e=>by cases e)⟩,fun _ _ _ _ _=>⟨h',hget,hyes h1 hv⟩,(fun e=>by cases e),(fun e=>by cases e),(fun e=>by cases e)⟩
   ·obtain rfl:=List.mem_singleton.1 hx
    exact⟨hR 3 δ δ,hm.here,⟨P,hP,E6,(fun e=>by cases e)⟩,(fun e=>by cases e),(fun e=>by cases e),(fun e=>by cases e),(fun e=>by cases e)⟩
 ·split at hx
  ·rw [<-hh'] at hx
   split at hx
   ·rename_i hd6
    obtain rfl:=List.mem_singleton.1 hx;exact⟨hR 6 δ δ,hm.here,⟨P,hP,E6,(fun e=>by cases e)⟩,(fun e=>by cases e),(fun e=>by cases e),(fun e=>by cases e),fun _=>⟨h',hget,hd6⟩⟩
   ·simp at hx
  ·simp at hx
theorem Ey {m:Ms}:∀{l:List Opn},jP m l=none->∀o∈l,o.deed≠m.deed
 | [],_=>by simp
 |o::l,h=>by
  unfold jP at h;split at h
  ·cases h
  ·rename_i hne
   intro x hx;rcases List.mem_cons.1 hx with rfl|hx
   ·exact hne
   ·exact Ey (by simpa using h) x hx
theorem xM {m:Ms}:∀{l:List Opn} {x:List Opn×List Rc×List Ms},jP m l=some x->∃A o B,l=A++o::B/\(∀y∈A,y.deed≠m.deed)/\o.deed=m.deed/\x=(A++(dJ o m).1++B,(dJ o m).2)
 | [],x,h=>by cases h
 |o::l,x,h=>by
  unfold jP at h;split at h
  ·rename_i he
   obtain rfl:=Option.some.inj h;exact⟨[],o,l,rfl,σ,he,rfl⟩
  ·rename_i hne
   cases hl:jP m l with
   |none=>rw [hl] at h;cases h
   |some y=>
    rw [hl] at h;obtain⟨A,p,B,e1,e2,e3,e4⟩:=xM hl;refine⟨o::A,p,B,by rw [e1];rfl,?_,e3,?_⟩
    ·intro z hz
     rcases List.mem_cons.1 hz with rfl|hz
     ·exact hne
     ·exact e2 z hz
    ·simp only [Option.map_some,Option.some.injEq] at h
     rw [<-h,e4];simp
theorem all_in:∀{a b:List Int},a.Nodup->(∀k∈a,k∈b)->b.length<=a.length->∀k∈b,k∈a
 | [],b,_,_,hl=>by
  obtain rfl:b=[]:=List.eq_nil_of_length_eq_zero (by simpa using hl);intro k hk;simp at hk
 |x::a,b,hn,hs,hl=>by
  rw [List.nodup_cons] at hn;have hx:=hs x List.mem_cons_self;have ih:=all_in (a:=a) (b:=b.erase x) hn.2 (fun k hk=>(List.mem_erase_of_ne (fun e=>hn.1 (by rw [<-e];exact hk))).2 (hs k (List.mem_cons_of_mem _ hk))) (by rw [List.length_erase_of_mem hx];simp at hl;omega);intro k hk;by_cases e:k=x
  ·rw [e];exact List.mem_cons_self
  ·exact List.mem_cons_of_mem _ (ih k ((List.mem_erase_of_ne e).2 hk))
theorem OW:∀{a b:List Int},a.Nodup->(∀k∈a,k∈b)->a.length<=b.length
 | [],_,_,_=>Nat.zero_le _
 |x::a,b,hn,hs=>by
  rw [List.nodup_cons] at hn;have hx:=hs x List.mem_cons_self;have ih:=OW (a:=a) (b:=b.erase x) hn.2 fun k hk=>(List.mem_erase_of_ne (fun e=>hn.1 (by rw [<-e];exact hk))).2 (hs k (List.mem_cons_of_mem _ hk));rw [List.length_erase_of_mem hx] at ih;have:=List.length_pos_of_mem hx;simp only [List.length_cons];omega
theorem Aj {A B:List Opn} {o x:Opn} (hn:((A++o::B).map (·.deed)).Nodup) (hx:x∈A++B):x.deed≠o.deed:=by
 rw [List.map_append,List.map_cons,List.nodup_append] at hn;obtain⟨-,h2,h3⟩:=hn;rw [List.nodup_cons] at h2;rcases List.mem_append.1 hx with hx|hx
 ·intro e
  exact h3 _ (List.mem_map.2 ⟨x,hx,rfl⟩) _ (by rw [e];exact List.mem_cons_self) rfl
 ·intro e
  exact h2.1 (List.mem_map.2 ⟨x,hx,e⟩)
theorem yP {h:Int}:∀{l:List Pt} {had:List (Int×Int)},(∀p∈l,Gu p h=false)->(∀p∈l,(p.h,p.k)∉had)->(l.map fun p=>(p.h,p.k)).Nodup->gU h had l=0
 | [],_,_,_,_=>rfl
 |p::l,had,h1,h2,h3=>by
  rw [List.map_cons,List.nodup_cons] at h3;unfold gU;rw [if_neg (by simp [h1 p List.mem_cons_self]),if_neg (h2 p List.mem_cons_self)];refine yP (fun q hq=>h1 q (List.mem_cons_of_mem _ hq)) (fun q hq hm=>?_) h3.2;rcases List.mem_cons.1 hm with e|hm
  ·exact h3.1 (List.mem_map.2 ⟨q,hq,e⟩)
  ·exact h2 q (List.mem_cons_of_mem _ hq) hm
theorem T_ {l:List Pt} {h:Int}:bD l h=0↔0<l.length/\l.length<=4/\(∀p∈l,0<=p.h/\p.h<h/\0<=p.k/\p.k<4/\p.n<=1048576/\-1048576<=p.n)/\(l.map fun p=>(p.h,p.k)).Nodup:=by
 refine⟨eP,fun⟨h1,h2,h3,h4⟩=>?_⟩;unfold bD;rw [if_neg δ];refine yP (fun p hp=>?_) σ h4;unfold Gu;rw [decide_eq_false_iff_not];have:=h3 p hp;omega
theorem Ua {P:List Pt} {n k:Int} (hw:bD P n=0) (hn:n<=3) (hne:jF P k≠ []):bD (jF P k) 3=0/\∀p∈jF P k,p.h=k:=by
 obtain⟨h1,h2,h3,h4⟩:=eP hw;have hs:(jF P k).Sublist P:=List.filter_sublist;refine⟨T_.2 ⟨List.length_pos_iff.2 hne,Nat.le_trans hs.length_le h2,fun p hp=>?_,h4.sublist (hs.map _)⟩,fun p hp=>?_⟩
 ·have:=h3 p (hs.subset hp)
  omega
 ·unfold jF at hp
  simpa using (List.mem_filter.1 hp).2
theorem Wu {A B:List Opn} {o o':Opn} {p:Opn->Prop} (h:p o'↔p o):(∃x∈A++ [o']++B,p x)↔∃x∈A++o::B,p x:=by
 constructor
 ·rintro⟨x,hx,hp⟩
  simp only [List.mem_append,List.mem_singleton] at hx;rcases hx with(hx|rfl)|hx
  ·exact⟨x,by simp [hx],hp⟩
  ·exact⟨o,σ,h.1 hp⟩
  ·exact⟨x,by simp [hx],hp⟩
 ·rintro⟨x,hx,hp⟩
  simp only [List.mem_append,List.mem_cons] at hx;rcases hx with hx|rfl|hx
  ·exact⟨x,by simp [hx],hp⟩
  ·exact⟨o',σ,h.2 hp⟩
  ·exact⟨x,by simp [hx],hp⟩
theorem pW {A B:List Opn} {o o':Opn} {p:Opn->Prop} (h:∀x∈A++o::B,p x) (h':p o'):∀x∈A++ [o']++B,p x:=by
 intro x hx;simp only [List.mem_append,List.mem_singleton] at hx;rcases hx with(hx|rfl)|hx
 ·exact h x (by simp [hx])
 ·exact h'
 ·exact h x (by simp [hx])
theorem qB.head {n:Nat} {G G':Reg} {hd hd':Hd} {hs:List Hs} {m:Ms} (h:qB n G hd hs m) (hG:∀x∈G,x∈G') (hD:∀r∈aW hd.log,r∈aW hd'.log)
  (hy:∀o'∈hd'.opn,o'.dec=false->o'.deed=m.deed->∃o∈hd.opn,o.deed=o'.deed/\o.dec=false)
  (ha:(∀r∈aW hd.log,r.deed≠m.deed)->(∀o∈hd.opn,o.deed≠m.deed)->(∀r∈aW hd'.log,r.deed≠m.deed)/\∀o∈hd'.opn,o.deed≠m.deed):qB n G' hd' hs m where
 right:=h.right
 here:=h.here
 reg:=by obtain⟨P,a,b⟩:=h.reg;exact⟨P,hG _ a,b⟩
 yes:=fun h2 o' ho hod hoc=>by
  obtain⟨o,a,b,c⟩:=hy o' ho hoc hod;exact h.yes h2 o a (b.trans hod) c
 commit:=fun h4=>by obtain⟨r,a,b⟩:=h.commit h4;exact⟨r,hD r a,b⟩
 abort:=fun h5=>by
  rcases h.abort h5 with hx|hx
  ·exact .inl (ha hx.1 hx.2)
  ·exact .inr hx
 ack:=h.ack
variable {n:Nat} {G:Reg} {hd:Hd} {hs:List Hs}
theorem Core.heard (c:Core n G hd hs) {A B:List Opn} {o:Opn} (e:hd.opn=A++o::B) {k:Int} (hk:k∈aX o.parts) (hn:k∉o.heard) (hl:o.heard.length+1≠(aX o.parts).length)
  (h1:o.dec=false->NU hs k o.deed) (h2:o.dec=true->Jk hs k o.deed):Core n G { hd with opn:=A++ [{ o with heard:=o.heard++ [k] }]++B } hs:=by
 have ho:o∈hd.opn:=by rw [e];simp
 have hw:=c.onew o ho;exact {
  len:=c.len,n3:=c.n3,reg:=c.reg,old:=c.old,aG:=c.aG,next:=c.next,pV:=c.pV,Mc:=c.Mc,qY:=c.qY,dec:=c.dec,held:=c.held,house:=c.house,ord:=c.ord,pre:=c.pre
  tq:=fun d P=>by rw [c.tq d P,e];exact(Wu (o:=o) (o':={ o with heard:=o.heard++ [k] }) (p:=fun x=>x.deed=d/\x.parts=P/\x.dec=true) Iff.rfl).symm
  NV:=by have:=c.NV;rw [e] at this;simpa using this
  nO:=by have:=c.nO;rw [e] at this;exact pW this (c.nO o ho)
  wB:=by have:=c.wB;rw [e] at this;simpa using this
  nP:=by have:=c.nP;rw [e] at this;exact pW this (c.nP o ho)
  onew:=by
   have:=c.onew;rw [e] at this;refine pW this ⟨?_,?_,?_⟩
   ·rw [List.nodup_append]
    refine⟨hw.1,σ,fun a ha b hb e=>?_⟩;obtain rfl:=List.mem_singleton.1 hb;exact hn (e▸ha)
   ·intro j hj
    rcases List.mem_append.1 hj with hj|hj
    ·exact hw.2.1 j hj
    ·obtain rfl:=List.mem_singleton.1 hj;exact hk
   ·have:=hw.2.2
    rw [List.length_append,List.length_singleton];show _<(aX o.parts).length;omega
  wC:=by
   have:=c.wC;rw [e] at this;refine pW this fun hd j hj=>?_;rcases List.mem_append.1 hj with hj|hj
   ·exact c.wC o ho hd j hj
   ·obtain rfl:=List.mem_singleton.1 hj;exact h1 hd
  wE:=by
   have:=c.wE;rw [e] at this;refine pW this fun hd j hj=>?_;rcases List.mem_append.1 hj with hj|hj
   ·exact c.wE o ho hd j hj
   ·obtain rfl:=List.mem_singleton.1 hj;exact h2 hd
  ends:=fun r hr hno j hj=>by
   refine c.ends r hr ?_ j hj;rw [e];intro x hx;simp only [List.mem_append,List.mem_cons] at hx;rcases hx with hx|rfl|hx
   ·exact hno x (by simp [hx])
   ·exact hno { x with heard:=x.heard++ [k] } σ
   ·exact hno x (by simp [hx]) }
theorem qB.heard {m:Ms} (h:qB n G hd hs m) {A B:List Opn} {o:Opn} (e:hd.opn=A++o::B) (k:Int):qB n G { hd with opn:=A++ [{ o with heard:=o.heard++ [k] }]++B } hs m:=by
 refine h.head (fun _ h=>h) (fun _ h=>h) (fun o' ho hoc hod=>?_) fun h1 h2=>⟨h1,?_⟩
 ·simp only [List.mem_append,List.mem_singleton] at ho
  rcases ho with(ho|rfl)|ho
  ·exact⟨o',by rw [e];simp [ho],rfl,hoc⟩
  ·exact⟨o,by rw [e];simp,rfl,hoc⟩
  ·exact⟨o',by rw [e];simp [ho],rfl,hoc⟩
 ·rw [e] at h2
  exact pW h2 (h2 o σ)
theorem Core.drop (c:Core n G hd hs) {l:List Opn} (hs':l.Sublist hd.opn) (hu:∀o∈hd.opn,o∉l->o.dec=false):Core n G { hd with opn:=l } hs where
 len:=c.len
 n3:=c.n3
 reg:=c.reg
 old:=c.old
 aG:=c.aG
 next:=c.next
 pV:=c.pV
 Mc:=c.Mc
 qY:=c.qY
 dec:=c.dec
 held:=c.held
 house:=c.house
 ord:=c.ord
 pre:=c.pre
 tq:=fun d P=>by
  rw [c.tq d P];constructor
  ·rintro⟨o,ho,h1,h2,h3⟩
   refine⟨o,?_,h1,h2,h3⟩;by_cases hl:o∈l
   ·exact hl
   ·rw [hu o ho hl] at h3;cases h3
  ·rintro⟨o,ho,h1⟩
   exact⟨o,hs'.subset ho,h1⟩
 NV:=c.NV.sublist (hs'.map _)
 nO:=fun o ho=>c.nO o (hs'.subset ho)
 wB:=Nat.le_trans hs'.length_le c.wB
 nP:=fun o ho=>c.nP o (hs'.subset ho)
 onew:=fun o ho=>c.onew o (hs'.subset ho)
 wC:=fun o ho=>c.wC o (hs'.subset ho)
 wE:=fun o ho=>c.wE o (hs'.subset ho)
 ends:=fun r hr hno=>by
  refine c.ends r hr fun o ho e=>?_;have h1:=(c.nP o ho).2 ⟨r,hr,e.symm⟩;by_cases hl:o∈l
  ·exact hno o hl e
  ·rw [hu o ho hl] at h1;cases h1
theorem qB.drop {m:Ms} (h:qB n G hd hs m) {l:List Opn} (hs':l.Sublist hd.opn):qB n G { hd with opn:=l } hs m:=
 h.head (fun _ h=>h) (fun _ h=>h) (fun o' ho hoc _=>⟨o',hs'.subset ho,rfl,hoc⟩) fun h1 h2=>⟨h1,fun o ho=>h2 o (hs'.subset ho)⟩
theorem Core.end' (c:Core n G hd hs) {A B:List Opn} {o:Opn} (e:hd.opn=A++o::B) (hd1:o.dec=true) (hall:∀k∈aX o.parts,Jk hs k o.deed):Core n G { hd with opn:=A++B,log:=hd.log++ [⟨6,o.deed,[]⟩] } hs:=by
 have ho:o∈hd.opn:=by rw [e];simp
 have hsub:(A++B).Sublist hd.opn:=by rw [e];exact(List.Sublist.refl A).append (List.sublist_cons_self o B)
 have hon:=c.NV;rw [e] at hon;have hD:aW (hd.log++ [⟨6,o.deed,[]⟩])=aW hd.log:=by rw [uQ];rfl
 have hL:(bT (hd.log++ [⟨6,o.deed,[]⟩])).opn=(bT hd.log).opn.filter fun x=>!(x.deed==o.deed):=by rw [mQ];rfl
 have hb:(bT (hd.log++ [⟨6,o.deed,[]⟩])).aG=(bT hd.log).aG:=by rw [mQ];rfl
 exact {
  len:=c.len,n3:=c.n3,reg:=c.reg,old:=c.old,aG:=c.aG,next:=c.next
  pV:=by show(bT (hd.log++_)).aG=_;rw [hb];exact c.pV
  Mc:=by show((bT (hd.log++_)).opn.map _).Nodup;rw [hL];exact c.Mc.sublist (List.filter_sublist.map _)
  qY:=fun x hx=>by
   have hx:x∈(bT (hd.log++ [⟨6,o.deed,[]⟩])).opn:=hx;rw [hL] at hx;exact c.qY x (List.mem_filter.1 hx).1
  dec:=by show L9 G (aW (hd.log++_));rw [hD];exact c.dec
  held:=by show∀r∈aW (hd.log++_),_;rw [hD];exact c.held
  house:=by show∀(k:Nat) h,_->HI G (aW (hd.log++_)) k h;rw [hD];exact c.house
  ord:=by show(aW (hd.log++_)).Pairwise _;rw [hD];exact c.ord
  pre:=by show∀A B,aW (hd.log++_)=A++B->_;rw [hD];exact c.pre
  tq:=fun d P=>by
   show(∃x∈(bT (hd.log++_)).opn,_)↔_;rw [hL];constructor
   ·rintro⟨x,hx,h1,h2⟩
    obtain⟨hx1,hx2⟩:=List.mem_filter.1 hx;obtain⟨y,hy,h3,h4,h5⟩:=(c.tq d P).1 ⟨x,hx1,h1,h2⟩;refine⟨y,?_,h3,h4,h5⟩;rw [e] at hy;simp only [List.mem_append,List.mem_cons] at hy ⊢;rcases hy with hy|rfl|hy
    ·exact .inl hy
    ·rw [h1,h3] at hx2;simp at hx2
    ·exact .inr hy
   ·rintro⟨y,hy,h3,h4,h5⟩
    obtain⟨x,hx,h1,h2⟩:=(c.tq d P).2 ⟨y,hsub.subset hy,h3,h4,h5⟩;refine⟨x,List.mem_filter.2 ⟨hx,?_⟩,h1,h2⟩;have:=Aj hon hy;rw [h1,<-h3];simpa using this
  NV:=c.NV.sublist (hsub.map _)
  nO:=fun o ho=>c.nO o (hsub.subset ho)
  wB:=Nat.le_trans hsub.length_le c.wB
  nP:=fun x hx=>by show x.dec=true↔∃r∈aW (hd.log++_),_;rw [hD];exact c.nP x (hsub.subset hx)
  onew:=fun o ho=>c.onew o (hsub.subset ho)
  wC:=fun o ho=>c.wC o (hsub.subset ho)
  wE:=fun o ho=>c.wE o (hsub.subset ho)
  ends:=fun r hr hno j hj=>by
   have hr:r∈aW (hd.log++ [⟨6,o.deed,[]⟩]):=hr;rw [hD] at hr;by_cases hro:r.deed=o.deed
   ·have h1:=c.dec.reg r hr
    rw [hro] at h1 ⊢;rw [rV c.reg.nd h1 (c.nO o ho)] at hj;exact hall j hj
   ·refine c.ends r hr ?_ j hj
    rw [e];intro x hx;simp only [List.mem_append,List.mem_cons] at hx;rcases hx with hx|rfl|hx
    ·exact hno x (by simp [hx])
    ·exact fun e=>hro e.symm
    ·exact hno x (by simp [hx]) }
theorem qB.end' {m:Ms} (h:qB n G hd hs m) {A B:List Opn} {o:Opn} (e:hd.opn=A++o::B):qB n G { hd with opn:=A++B,log:=hd.log++ [⟨6,o.deed,[]⟩] } hs m:=by
 have hsub:(A++B).Sublist hd.opn:=by rw [e];exact(List.Sublist.refl A).append (List.sublist_cons_self o B)
 have hD:aW (hd.log++ [⟨6,o.deed,[]⟩])=aW hd.log:=by rw [uQ];rfl
 refine h.head (fun _ h=>h) (fun r hr=>?_) (fun o' ho hoc _=>⟨o',hsub.subset ho,rfl,hoc⟩) fun h1 h2=>⟨?_,fun o ho=>h2 o (hsub.subset ho)⟩
 ·show r∈aW (hd.log++_)
  rw [hD];exact hr
 ·show∀r∈aW (hd.log++_),_
  rw [hD];exact h1
theorem Wv {D A B:List Rd} {r:Rd} (h:D++ [r]=A++B):(∃B',D=A++B')∨A=D++ [r]:=by
 rcases List.eq_nil_or_concat B with rfl|⟨B',x,rfl⟩
 ·right;simpa using h.symm
 ·left
  rw [List.concat_eq_append,<-List.append_assoc] at h;exact⟨B',(List.append_inj' h rfl).1⟩
theorem Core.commit (c:Core n G hd hs) {A B:List Opn} {o:Opn} (e:hd.opn=A++o::B) (hu:o.dec=false) (hall:∀k∈aX o.parts,NU hs k o.deed):
  Core n G { hd with opn:=A++ [{ o with dec:=true,heard:=[] }]++B,log:=hd.log++ [⟨5,o.deed,o.parts⟩] } hs:=by
 have ho:o∈hd.opn:=by rw [e];simp
 have Yg:=c.nO o ho;have hw:bD o.parts n=0:=(c.reg.ok _ Yg).2;have hn3:(n:Int)<=3:=by have:=c.n3;omega
 have hon:=c.NV;rw [e] at hon;have hD:aW (hd.log++ [⟨5,o.deed,o.parts⟩])=aW hd.log++ [⟨o.deed,o.parts⟩]:=by rw [uQ];rfl
 have hL:(bT (hd.log++ [⟨5,o.deed,o.parts⟩])).opn=(bT hd.log).opn++ [⟨o.deed,o.parts,true,[]⟩]:=by rw [mQ];rfl
 have hb:(bT (hd.log++ [⟨5,o.deed,o.parts⟩])).aG=(bT hd.log).aG:=by rw [mQ];rfl
 have hnD:∀r∈aW hd.log,r.deed≠o.deed:=by
  intro r hr he;have:=(c.nP o ho).2 ⟨r,hr,he⟩;rw [hu] at this;cases this
 have hAB:∀x∈A++B,x∈hd.opn/\x.deed≠o.deed:=fun x hx=>⟨by rw [e];simp only [List.mem_append,List.mem_cons] at hx ⊢;rcases hx with hx|hx<;>simp [hx],Aj hon hx⟩;have hin:∀x,x∈A++ [{ o with dec:=true,heard:=[] }]++B->x={ o with dec:=true,heard:=[] }∨x∈A++B:=by
  intro x hx;simp only [List.mem_append,List.mem_singleton] at hx ⊢;rcases hx with(hx|hx)|hx
  ·exact .inr (.inl hx)
  ·exact .inl hx
  ·exact .inr (.inr hx)
 have hin':∀x,x∈A++B->x∈A++ [{ o with dec:=true,heard:=[] }]++B:=by
  intro x hx;simp only [List.mem_append] at hx ⊢;rcases hx with hx|hx
  ·exact .inl (.inl hx)
  ·exact .inr hx
 have hout:∀x∈hd.opn,x=o∨x∈A++B:=by
  intro x hx;rw [e] at hx;simp only [List.mem_append,List.mem_cons] at hx ⊢;rcases hx with hx|hx|hx
  ·exact .inr (.inl hx)
  ·exact .inl hx
  ·exact .inr (.inr hx)
 have hord:∀r∈aW hd.log,∀k q,has k q r.parts=true->has k q o.parts=true->Jk hs k r.deed:=by
  intro r hr k q h1 h2;have hrG:=c.dec.reg r hr;have hk1:=(xk (c.reg.ok _ hrG).2 hn3 h1).1;have hk2:=(xk hw hn3 h2).1;have hk0:0<=k:=(rJ hw hk2).1;rcases c.held r hr k hk1 with hx|hx
  ·obtain⟨h,a1,a2,a3,-⟩:=c.vk hk0 hx hrG
   obtain⟨h',b1,b2,b3,-⟩:=c.vk hk0 (hall k hk2) Yg;rw [a1] at b1;obtain rfl:=Option.some.inj b1;have e1:=uN a2.calm.apart _ a3 (DT h1);have e2:=uN a2.calm.apart _ b3 (DT h2);simp only at e1 e2;exact absurd (by rw [<-e1,e2]) (hnD r hr)
  ·exact hx
 exact {
  len:=c.len,n3:=c.n3,reg:=c.reg,old:=c.old,aG:=c.aG,next:=c.next
  pV:=by show(bT (hd.log++_)).aG=_;rw [hb];exact c.pV
  Mc:=by
   show((bT (hd.log++_)).opn.map _).Nodup;rw [hL,List.map_append,List.nodup_append];refine⟨c.Mc,σ,fun a ha b hb' he=>?_⟩;obtain⟨x,hx,rfl⟩:=List.mem_map.1 ha;simp only [List.map_cons,List.map_nil,List.mem_singleton] at hb';obtain⟨y,hy,h1,-,h3⟩:=(c.tq x.deed x.parts).1 ⟨x,hx,rfl,rfl⟩;rcases hout y hy with rfl|hy
   ·rw [hu] at h3;cases h3
   ·exact(hAB y hy).2 (by rw [h1,he,hb'])
  qY:=fun x hx=>by
   have hx:x∈(bT (hd.log++ [⟨5,o.deed,o.parts⟩])).opn:=hx;rw [hL] at hx;rcases List.mem_append.1 hx with hx|hx
   ·exact c.qY x hx
   ·obtain rfl:=List.mem_singleton.1 hx;exact⟨rfl,rfl⟩
  tq:=fun d P=>by
   show(∃x∈(bT (hd.log++_)).opn,_)↔_;rw [hL];constructor
   ·rintro⟨x,hx,h1,h2⟩
    rcases List.mem_append.1 hx with hx|hx
    ·obtain⟨y,hy,h3,h4,h5⟩:=(c.tq d P).1 ⟨x,hx,h1,h2⟩
     rcases hout y hy with rfl|hy
     ·rw [hu] at h5;cases h5
     ·exact⟨y,hin' y hy,h3,h4,h5⟩
    ·obtain rfl:=List.mem_singleton.1 hx
     exact⟨{ o with dec:=true,heard:=[] },σ,h1,h2,rfl⟩
   ·rintro⟨y,hy,h3,h4,h5⟩
    rcases hin y hy with rfl|hy
    ·exact⟨⟨o.deed,o.parts,true,[]⟩,σ,h3,h4⟩
    ·obtain⟨x,hx,h1⟩:=(c.tq d P).2 ⟨y,(hAB y hy).1,h3,h4,h5⟩
     exact⟨x,List.mem_append_left _ hx,h1⟩
  NV:=by simpa using hon
  nO:=fun x hx=>by
   rcases hin x hx with rfl|hx
   ·exact Yg
   ·exact c.nO x (hAB x hx).1
  wB:=by have:=c.wB;rw [e] at this;simpa using this
  nP:=fun x hx=>by
   show x.dec=true↔∃r∈aW (hd.log++_),_;rw [hD];rcases hin x hx with rfl|hx
   ·exact⟨fun _=>⟨⟨o.deed,o.parts⟩,σ,rfl⟩,fun _=>rfl⟩
   ·obtain⟨h1,h2⟩:=hAB x hx
    rw [c.nP x h1];constructor
    ·rintro⟨r,hr,he⟩;exact⟨r,List.mem_append_left _ hr,he⟩
    ·rintro⟨r,hr,he⟩
     rcases List.mem_append.1 hr with hr|hr
     ·exact⟨r,hr,he⟩
     ·obtain rfl:=List.mem_singleton.1 hr;exact absurd he.symm h2
  onew:=fun x hx=>by
   rcases hin x hx with rfl|hx
   ·exact⟨List.nodup_nil,σ,uO hw hn3⟩
   ·exact c.onew x (hAB x hx).1
  wC:=fun x hx hxd=>by
   rcases hin x hx with rfl|hx
   ·cases hxd
   ·exact c.wC x (hAB x hx).1 hxd
  wE:=fun x hx hxd=>by
   rcases hin x hx with rfl|hx
   ·intro k hk;simp at hk
   ·exact c.wE x (hAB x hx).1 hxd
  dec:=by
   show L9 G (aW (hd.log++_));rw [hD];refine⟨fun r hr=>?_,?_⟩
   ·rcases List.mem_append.1 hr with hr|hr
    ·exact c.dec.reg r hr
    ·obtain rfl:=List.mem_singleton.1 hr;exact Yg
   ·rw [List.map_append,List.nodup_append]
    refine⟨c.dec.nd,σ,fun a ha b hb' he=>?_⟩;obtain⟨r,hr,rfl⟩:=List.mem_map.1 ha;simp only [List.map_cons,List.map_nil,List.mem_singleton] at hb';exact hnD r hr (he.trans hb')
  held:=by
   show∀r∈aW (hd.log++_),_;rw [hD];intro r hr k hk;rcases List.mem_append.1 hr with hr|hr
   ·exact c.held r hr k hk
   ·obtain rfl:=List.mem_singleton.1 hr;exact .inl (hall k hk)
  ends:=by
   show∀r∈aW (hd.log++_),_;rw [hD];intro r hr hno;rcases List.mem_append.1 hr with hr|hr
   ·refine c.ends r hr fun x hx=>?_
    rcases hout x hx with hx|hx
    ·rw [hx];exact fun e=>hnD r hr e.symm
    ·exact hno x (hin' x hx)
   ·obtain rfl:=List.mem_singleton.1 hr
    exact absurd rfl (hno { o with dec:=true,heard:=[] } σ)
  house:=by
   show∀(k:Nat) h,_->HI G (aW (hd.log++_)) k h;rw [hD];intro k h hk;refine(c.house k h hk).dec fun hx=>?_;obtain⟨r,a,b⟩:=c.Ws (k:=(k:Int)) δ ⟨h,by simpa using hk,hx⟩;exact hnD r a b
  ord:=by
   show(aW (hd.log++_)).Pairwise _;rw [hD,List.pairwise_append];refine⟨c.ord,List.pairwise_singleton _ _,fun a ha b hb' k q h1 h2=>?_⟩;obtain rfl:=List.mem_singleton.1 hb';exact hord a ha k q h1 h2
  pre:=by
   show∀A B,aW (hd.log++_)=A++B->_;rw [hD];intro A' B' he k q;rcases Wv he with⟨B2,h1⟩|h1
   ·exact c.pre A' B2 h1 k q
   ·rw [h1,CU,tot,tot]
    have h2:=c.pre (aW hd.log) [] σ k q;show 0<=tot k q (aW hd.log)+(amt k q o.parts+0)/\tot k q (aW hd.log)+(amt k q o.parts+0)<=1048576;cases hh:has k q o.parts with
    |false=>rw [DC hh];omega
    |true=>
     obtain⟨hk,q0,q1⟩:=xk hw hn3 hh;have hk0:0<=k:=(rJ hw hk).1;obtain⟨h,b1,b2,b3,-⟩:=c.vk hk0 (hall k hk) Yg;have hf:=(DJ hw b2.right k).1 (b2.fits _ b3) q q0 q1;have ha:=b2.add q q0 q1;rw [DF] at ha
     ·rw [ha] at hf;omega
     ·intro r hr hp
      cases h3:has k q r.parts with
      |false=>exact DC h3
      |true=>
       obtain⟨h',c1,c2⟩:=hord r hr k q h3 hh;rw [b1] at c1;obtain rfl:=Option.some.inj c1;simp [c2] at hp }
theorem qB.Zh {m:Ms} (h:qB n G hd hs m) (_:Core n G hd hs) {A B:List Opn} {o:Opn} (e:hd.opn=A++o::B):
  qB n G { hd with opn:=A++ [{ o with dec:=true,heard:=[] }]++B,log:=hd.log++ [⟨5,o.deed,o.parts⟩] } hs m:=by
 have ho:o∈hd.opn:=by rw [e];simp
 have hD:aW (hd.log++ [⟨5,o.deed,o.parts⟩])=aW hd.log++ [⟨o.deed,o.parts⟩]:=by rw [uQ];rfl
 refine h.head (fun _ h=>h) (fun r hr=>?_) (fun o' ho' hoc _=>?_) fun h1 h2=>⟨?_,?_⟩
 ·show r∈aW (hd.log++_)
  rw [hD];exact List.mem_append_left _ hr
 ·simp only [List.mem_append,List.mem_singleton] at ho'
  rcases ho' with(ho'|rfl)|ho'
  ·exact⟨o',by rw [e];simp [ho'],rfl,hoc⟩
  ·cases hoc
  ·exact⟨o',by rw [e];simp [ho'],rfl,hoc⟩
 ·show∀r∈aW (hd.log++_),_
  rw [hD];intro r hr;rcases List.mem_append.1 hr with hr|hr
  ·exact h1 r hr
  ·obtain rfl:=List.mem_singleton.1 hr;exact h2 o ho
 ·rw [e] at h2
  exact pW h2 (h2 o σ)
variable {n:Nat} {G:Reg} {hd:Hd} {hs:List Hs}
theorem Core.deed (c:Core n G hd hs) {d:Int} {P:List Pt} (h:(d,P)∈G):0<=d/\d<=1343:=by
 have h1:=(c.reg.ok _ h).1;have h2:=c.old _ h;have h3:=c.aG;have h4:=c.next;simp only at h1 h2;omega
theorem Core.u7 (c:Core n G hd hs):(n:Int)<=3:=by have:=c.n3;omega
theorem Core.plain (c:Core n G hd hs) {d:Int} {P:List Pt} (h:(d,P)∈G) {k:Int} (hk:k∈aX P) {kd:Int} (h1:1<kd) (h7:kd<=7):jg ⟨kd,d,k,[]⟩:=by
 have hd':=c.deed h;have hk3:=rJ (c.reg.ok _ h).2 hk;have:=c.u7;exact⟨⟨by show 1<=kd;omega,h7⟩,hd',⟨hk3.1,by show k<=2;omega⟩,fun _=>rfl,fun e=>absurd (show kd=1 from e) δ⟩
theorem Core.here (c:Core n G hd hs) {d:Int} {P:List Pt} (h:(d,P)∈G) {k:Int} (hk:k∈aX P):k<n:=(rJ (c.reg.ok _ h).2 hk).2
theorem Jo (c:Core n G hd hs) {o:Opn} (ho:o∈hd.opn):∀x∈gG o,qB n G hd hs x:=by
 intro x hx;unfold gG at hx;obtain⟨k,hk,rfl⟩:=List.mem_map.1 hx;have hk:=(List.mem_filter.1 hk).1;have hG:=c.nO o ho;have hw:bD o.parts n=0:=(c.reg.ok _ hG).2;unfold gV;split
 ·rename_i hdec
  exact⟨c.plain hG hk δ δ,c.here hG hk,⟨o.parts,hG,hk,(fun e=>by cases e)⟩,(fun e=>by cases e),fun _=>(c.nP o ho).1 hdec,(fun e=>by cases e),(fun e=>by cases e)⟩
 ·have hne:=(kZ.1 hk).2
  have hp:=Ua hw c.u7 hne;have hd':=c.deed hG;have hk3:=rJ hw hk;have hn:=c.u7;exact⟨⟨⟨by show(1:Int)<=1;omega,by show(1:Int)<=7;omega⟩,hd',⟨hk3.1,by show k<=2;omega⟩,fun e=>absurd rfl e,fun _=>hp⟩,c.here hG hk,⟨o.parts,hG,hk,fun _=>rfl⟩,(fun e=>by cases e),(fun e=>by cases e),(fun e=>by cases e),(fun e=>by cases e)⟩
theorem Hu (c:Core n G hd hs) {d:Int} {P:List Pt} (hG:(d,P)∈G) (h1:∀r∈aW hd.log,r.deed≠d) (h2:∀o∈hd.opn,o.deed≠d):∀x∈dG d P,qB n G hd hs x:=by
 intro x hx;unfold dG at hx;obtain⟨k,hk,rfl⟩:=List.mem_map.1 hx;exact⟨c.plain hG hk δ δ,c.here hG hk,⟨P,hG,hk,(fun e=>by cases e)⟩,(fun e=>by cases e),(fun e=>by cases e),fun _=>.inl ⟨h1,h2⟩,(fun e=>by cases e)⟩
theorem Core.begin (c:Core n G hd hs) {P:List Pt} (hw:bD P n=0) (hf:oz hd=false):
  Core n ((64*hd.aG+hd.next,P)::G) (iH hd P) hs/\(∀m,qB n G hd hs m->qB n ((64*hd.aG+hd.next,P)::G) (iH hd P) hs m)/\∀m∈jK hd P,qB n ((64*hd.aG+hd.next,P)::G) (iH hd P) hs m:=by
 have hfull:hd.opn.length<=11/\hd.next<=63:=by
  unfold oz at hf;rw [decide_eq_false_iff_not] at hf;omega
 have e:iH hd P={ hd with opn:=hd.opn++ [qV hd P],next:=hd.next+1 }:=by unfold iH;rw [if_neg (by rw [hf];simp)]
 have hb:=c.aG;have hn:=c.next;have hnew:∀x∈G,x.1≠64*hd.aG+hd.next:=fun x hx he=>by have:=c.old x hx;omega
 have hD:∀r∈aW hd.log,r.deed≠64*hd.aG+hd.next:=fun r hr=>hnew _ (c.dec.reg r hr);have hO:∀o∈hd.opn,o.deed≠64*hd.aG+hd.next:=fun o ho=>hnew _ (c.nO o ho);have hin:∀o,o∈hd.opn++ [qV hd P]->o∈hd.opn∨o=qV hd P:=fun o ho=>by simpa using ho
 have nY:(iH hd P).log=hd.log:=by rw [e]
 have hc:Core n ((64*hd.aG+hd.next,P)::G) (iH hd P) hs:=by
  rw [e];exact {
   len:=c.len,n3:=c.n3,pV:=c.pV,Mc:=c.Mc,qY:=c.qY,aG:=c.aG
   reg:=⟨by
    rw [List.map_cons,List.nodup_cons];exact⟨fun h=>by obtain⟨x,hx,he⟩:=List.mem_map.1 h;exact hnew x hx he,c.reg.nd⟩,fun x hx=>by
    rcases List.mem_cons.1 hx with rfl|hx
    ·exact⟨by show 0<=64*hd.aG+hd.next;omega,hw⟩
    ·exact c.reg.ok x hx⟩
   old:=fun x hx=>by
    rcases List.mem_cons.1 hx with rfl|hx
    ·show 64*hd.aG+hd.next<64*hd.aG+(hd.next+1);omega
    ·have:=c.old x hx
     show x.1<64*hd.aG+(hd.next+1);omega
   next:=⟨by show 0<=hd.next+1;omega,by show hd.next+1<=64;omega⟩
   tq:=fun d Q=>by
    rw [c.tq d Q];constructor
    ·rintro⟨o,ho,h⟩;exact⟨o,List.mem_append_left _ ho,h⟩
    ·rintro⟨o,ho,h1,h2,h3⟩
     rcases hin o ho with ho|rfl
     ·exact⟨o,ho,h1,h2,h3⟩
     ·cases h3
   NV:=by
    rw [List.map_append,List.nodup_append];refine⟨c.NV,σ,fun a ha b hb' he=>?_⟩;obtain⟨o,ho,rfl⟩:=List.mem_map.1 ha;simp only [List.map_cons,List.map_nil,List.mem_singleton] at hb';exact hO o ho (he.trans hb')
   nO:=fun o ho=>by
    rcases hin o ho with ho|rfl
    ·exact List.mem_cons_of_mem _ (c.nO o ho)
    ·exact List.mem_cons_self
   wB:=by rw [List.length_append];simp;omega
   nP:=fun o ho=>by
    rcases hin o ho with ho|rfl
    ·exact c.nP o ho
    ·constructor
     ·intro h;cases h
     ·rintro⟨r,hr,he⟩;exact absurd he (hD r hr)
   onew:=fun o ho=>by
    rcases hin o ho with ho|rfl
    ·exact c.onew o ho
    ·exact⟨List.nodup_nil,(fun k hk=>by cases hk),uO hw c.u7⟩
   wC:=fun o ho hd' k hk=>by
    rcases hin o ho with ho|rfl
    ·exact c.wC o ho hd' k hk
    ·cases hk
   wE:=fun o ho hd' k hk=>by
    rcases hin o ho with ho|rfl
    ·exact c.wE o ho hd' k hk
    ·cases hk
   dec:=⟨fun r hr=>List.mem_cons_of_mem _ (c.dec.reg r hr),c.dec.nd⟩
   held:=c.held
   ends:=fun r hr hno=>c.ends r hr fun o ho=>hno o (List.mem_append_left _ ho)
   house:=fun k h hk=>(c.house k h hk).more fun x hx=>List.mem_cons_of_mem _ hx
   ord:=c.ord
   pre:=c.pre }
 refine⟨hc,fun m hm=>?_,?_⟩
 ·have hmd:m.deed≠64*hd.aG+hd.next:=by
   obtain⟨Q,hQ,-⟩:=hm.reg;exact hnew _ hQ
  refine hm.head (fun x hx=>List.mem_cons_of_mem _ hx) (fun r hr=>by rw [nY];exact hr) (fun o' ho' hoc hod=>?_) fun h1 h2=>⟨by rw [nY];exact h1,fun o ho=>?_⟩
  ·rw [e] at ho'
   rcases hin o' ho' with ho'|rfl
   ·exact⟨o',ho',rfl,hoc⟩
   ·exact absurd hod.symm hmd
  ·rw [e] at ho
   rcases hin o ho with ho|rfl
   ·exact h2 o ho
   ·exact fun h=>hmd h.symm
 ·unfold jK
  rw [if_neg (by rw [hf];simp)];exact Jo hc (by rw [e];simp)
theorem Core.fall (c:Core n G hd hs) (hb:¬19<hd.aG):Core n G (jA hd) hs/\∀m,qB n G hd hs m->qB n G (jA hd) hs m:=by
 have hb2:=c.aG;have hn:=c.next;have e:jA hd={ log:=hd.log++ [⟨4,0,[]⟩],aG:=wrap64 ((bT hd.log).aG+1),next:=0,opn:=(bT hd.log).opn }:=by
  unfold jA;rw [if_neg hb,mQ];have:=xu hd.log;unfold b_;simp [this.1]
 have hw:wrap64 ((bT hd.log).aG+1)=hd.aG+1:=by rw [c.pV];unfold wrap64;omega
 rw [hw] at e;have hD:aW (hd.log++ [⟨4,0,[]⟩])=aW hd.log:=by rw [uQ];rfl
 have hL:(bT (hd.log++ [⟨4,0,[]⟩])).opn=(bT hd.log).opn:=by rw [mQ];rfl
 have hB:(bT (hd.log++ [⟨4,0,[]⟩])).aG=hd.aG+1:=by rw [mQ,<-hw];rfl
 have back:∀o∈(bT hd.log).opn,∃o'∈hd.opn,o'.deed=o.deed/\o'.parts=o.parts/\o'.dec=true:=fun o ho=>(c.tq o.deed o.parts).1 ⟨o,ho,rfl,rfl⟩;have hc:Core n G (jA hd) hs:=by
  rw [e];exact {
   len:=c.len,n3:=c.n3,reg:=c.reg
   old:=fun x hx=>by have:=c.old x hx;show x.1<64*(hd.aG+1)+0;omega
   aG:=⟨by show 1<=hd.aG+1;omega,by show hd.aG+1<=20;omega⟩
   next:=⟨Int.le_refl _,by show(0:Int)<=64;omega⟩
   pV:=hB
   tq:=fun d P=>by
    show(∃o∈(bT (hd.log++_)).opn,_)↔∃o∈(bT hd.log).opn,_;rw [hL];constructor
    ·rintro⟨o,ho,h1,h2⟩;exact⟨o,ho,h1,h2,(c.qY o ho).1⟩
    ·rintro⟨o,ho,h1,h2,-⟩;exact⟨o,ho,h1,h2⟩
   Mc:=by show((bT (hd.log++_)).opn.map _).Nodup;rw [hL];exact c.Mc
   qY:=fun o ho=>by
    have ho:o∈(bT (hd.log++ [⟨4,0,[]⟩])).opn:=ho;rw [hL] at ho;exact c.qY o ho
   NV:=c.Mc
   nO:=fun o ho=>by
    obtain⟨o',h1,h2,h3,-⟩:=back o ho;rw [<-h2,<-h3];exact c.nO o' h1
   wB:=by
    have h1:((bT hd.log).opn.map (·.deed)).length<=(hd.opn.map (·.deed)).length:=OW c.Mc fun d hd'=>by
     obtain⟨o,ho,rfl⟩:=List.mem_map.1 hd';obtain⟨o',h1,h2,-⟩:=back o ho;exact List.mem_map.2 ⟨o',h1,h2⟩
    simp only [List.length_map] at h1;exact Nat.le_trans h1 c.wB
   nP:=fun o ho=>by
    show o.dec=true↔∃r∈aW (hd.log++_),_;rw [hD];obtain⟨o',h1,h2,-,h4⟩:=back o ho;rw [<-h2];exact⟨fun _=>(c.nP o' h1).1 h4,fun _=>(c.qY o ho).1⟩
   onew:=fun o ho=>by
    obtain⟨o',h1,h2,h3,-⟩:=back o ho;rw [(c.qY o ho).2,<-h3];exact⟨List.nodup_nil,(fun k hk=>by cases hk),uO (c.reg.ok _ (c.nO o' h1)).2 c.u7⟩
   wC:=fun o ho hd'=>by rw [(c.qY o ho).1] at hd';cases hd'
   wE:=fun o ho _ k hk=>by rw [(c.qY o ho).2] at hk;cases hk
   dec:=by show L9 G (aW (hd.log++_));rw [hD];exact c.dec
   held:=by show∀r∈aW (hd.log++_),_;rw [hD];exact c.held
   ends:=fun r hr hno=>by
    have hr:r∈aW (hd.log++ [⟨4,0,[]⟩]):=hr;rw [hD] at hr;refine c.ends r hr fun o ho he=>?_;have h1:=(c.nP o ho).2 ⟨r,hr,he.symm⟩;obtain⟨o2,h2,h3,-⟩:=(c.tq o.deed o.parts).2 ⟨o,ho,rfl,rfl,h1⟩;exact hno o2 h2 (h3.trans he)
   house:=by show∀(k:Nat) h,_->HI G (aW (hd.log++_)) k h;rw [hD];exact c.house
   ord:=by show(aW (hd.log++_)).Pairwise _;rw [hD];exact c.ord
   pre:=by show∀A B,aW (hd.log++_)=A++B->_;rw [hD];exact c.pre }
 refine⟨hc,fun m hm=>?_⟩;have nY:(jA hd).log=hd.log++ [⟨4,0,[]⟩]:=by rw [e]
 have FZ:(jA hd).opn=(bT hd.log).opn:=by rw [e]
 refine hm.head (fun _ h=>h) (fun r hr=>by rw [nY,hD];exact hr) (fun o' ho' hoc _=>?_) fun h1 h2=>⟨by rw [nY,hD];exact h1,fun o ho=>?_⟩
 ·rw [FZ] at ho'
  rw [(c.qY o' ho').1] at hoc;cases hoc
 ·rw [FZ] at ho
  obtain⟨o',h3,h4,-⟩:=back o ho;rw [<-h4];exact h2 o' h3
theorem Core.quit (c:Core n G hd hs):Core n G (kM hd) hs/\(∀m,qB n G hd hs m->qB n G (kM hd) hs m)/\∀m∈qH hd,qB n G (kM hd) hs m:=by
 have hs':(hd.opn.filter fun o=>o.dec).Sublist hd.opn:=List.filter_sublist;have hc:Core n G (kM hd) hs:=c.drop hs' fun o ho hn=>by
  cases hd':o.dec with
  |false=>rfl
  |true=>exact absurd (List.mem_filter.2 ⟨ho,hd'⟩) hn
 refine⟨hc,fun m hm=>hm.drop hs',fun m hm=>?_⟩;unfold qH at hm;obtain⟨o,ho,hm⟩:=List.mem_flatMap.1 hm;obtain⟨h1,h2⟩:=List.mem_filter.1 ho;have hu:o.dec=false:=by simpa using h2
 refine Hu hc (c.nO o h1) (fun r hr he=>?_) (fun o' ho' he=>?_) m hm
 ·have:=(c.nP o h1).2 ⟨r,hr,he⟩
  rw [hu] at this;cases this
 ·obtain⟨h3,h4⟩:=List.mem_filter.1 ho'
  have h5:=(c.nP o' h3).1 h4;rw [he] at h5;have:=(c.nP o h1).2 h5;rw [hu] at this;cases this
theorem Core.Wx (c:Core n G hd hs) {m:Ms} (hm:qB n G hd hs m):Core n G (f_ hd m) hs/\(∀x,qB n G hd hs x->qB n G (f_ hd m) hs x)/\∀x∈fG hd m,qB n G (f_ hd m) hs x:=by
 obtain⟨P,hP,hk,-⟩:=hm.reg;unfold f_ fG;cases hl:jP m hd.opn with
 |none=>
  refine⟨c,fun _ h=>h,fun x hx=>?_⟩;simp only at hx;split at hx
  ·obtain rfl:=List.mem_singleton.1 hx
   refine⟨c.plain hP hk δ δ,c.here hP hk,⟨P,hP,hk,(fun e=>by cases e)⟩,(fun e=>by cases e),(fun e=>by cases e),fun _=>?_,(fun e=>by cases e)⟩;have hno:=Ey hl;by_cases hD:∃r∈aW hd.log,r.deed=m.deed
   ·obtain⟨r,hr,he⟩:=hD
    right;have h1:=c.dec.reg r hr;rw [he] at h1;have h2:=c.ends r hr (fun o ho=>by rw [he];exact hno o ho) m.house (by rw [rV c.reg.nd h1 hP];exact hk);rw [he] at h2;exact h2
   ·exact .inl ⟨fun r hr he=>hD ⟨r,hr,he⟩,hno⟩
  ·simp at hx
 |some y=>
  obtain⟨A,o,B,e,hA,hod,rfl⟩:=xM hl;simp only;have ho:o∈hd.opn:=by rw [e];simp
  have Yg:=c.nO o ho;rw [hod] at Yg;obtain rfl:=rV c.reg.nd hP Yg;have hw:bD o.parts n=0:=(c.reg.ok _ Yg).2;have hnew:=c.onew o ho;have hlast:o.heard.length+1=(aX o.parts).length->m.house∉o.heard->∀k∈aX o.parts,k∈o.heard++ [m.house]:=fun hl hn=>by
   refine all_in ?_ ?_ (by simp;omega)
   ·rw [List.nodup_append]
    refine⟨hnew.1,σ,fun a ha b hb he=>?_⟩;rw [he,List.mem_singleton.1 hb] at ha;exact hn ha
   ·intro k hk'
    rcases List.mem_append.1 hk' with hk'|hk'
    ·exact hnew.2.1 k hk'
    ·rw [List.mem_singleton.1 hk'];exact hk
  have hsame:({ hd with opn:=A++ [o]++B,log:=hd.log++ [] }:Hd)=hd:=by
   cases hd;simp only at e ⊢;simp [e]
  unfold dJ;split
  ·rename_i h2
   obtain⟨k2,hu,hin,hn⟩:=h2;have hr:NU hs m.house o.deed:=by rw [hod];exact hm.yes k2 o ho hod hu
   split
   ·rename_i hl1
    have hall:∀k∈aX o.parts,NU hs k o.deed:=fun k hk'=>by
     rcases List.mem_append.1 (hlast hl1 hn k hk') with h|h
     ·exact c.wC o ho hu k h
     ·rw [List.mem_singleton.1 h];exact hr
    have hc:=c.commit e hu hall;exact⟨hc,fun x hx=>hx.Zh c e,Jo hc σ⟩
   ·rename_i hl1
    simp only [List.append_nil];have hc:=c.heard e hin hn hl1 (fun _=>hr) (fun h=>by rw [hu] at h;cases h);exact⟨hc,fun x hx=>hx.heard e _,fun x hx=>by cases hx⟩
  split
  ·rename_i h3
   obtain⟨k3,hu⟩:=h3;simp only [List.append_nil];have hsub:(A++B).Sublist hd.opn:=by rw [e];exact(List.Sublist.refl A).append (List.sublist_cons_self o B)
   have hon:=c.NV;rw [e] at hon;have hc:=c.drop hsub fun x hx hn=>by
    rw [e] at hx;simp only [List.mem_append,List.mem_cons] at hx hn;rcases hx with hx|rfl|hx
    ·exact absurd (.inl hx) hn
    ·exact hu
    ·exact absurd (.inr hx) hn
   refine⟨hc,fun x hx=>hx.drop hsub,Hu hc (by rw [hod];exact Yg) (fun r hr he=>?_) fun o' ho'=>Aj hon ho'⟩;have:=(c.nP o ho).2 ⟨r,hr,he⟩;rw [hu] at this;cases this
  split
  ·rename_i h6
   obtain⟨k6,hu,hin,hn⟩:=h6;have hr:Jk hs m.house o.deed:=by rw [hod];exact hm.ack k6
   split
   ·rename_i hl1
    have hall:∀k∈aX o.parts,Jk hs k o.deed:=fun k hk'=>by
     rcases List.mem_append.1 (hlast hl1 hn k hk') with h|h
     ·exact c.wE o ho hu k h
     ·rw [List.mem_singleton.1 h];exact hr
    simp only [List.append_nil];exact⟨c.end' e hu hall,fun x hx=>hx.end' e,fun x hx=>by cases hx⟩
   ·rename_i hl1
    simp only [List.append_nil];exact⟨c.heard e hin hn hl1 (fun h=>by rw [hu] at h;cases h) (fun _=>hr),fun x hx=>hx.heard e _,fun x hx=>by cases hx⟩
  split
  ·rename_i h7
   obtain⟨k7,hu⟩:=h7;rw [hsame];refine⟨c,fun _ h=>h,fun x hx=>?_⟩;obtain rfl:=List.mem_singleton.1 hx;have h1:=(c.nP o ho).1 hu;rw [hod] at h1;exact⟨c.plain hP hk δ δ,c.here hP hk,⟨o.parts,hP,hk,(fun e=>by cases e)⟩,(fun e=>by cases e),fun _=>h1,(fun e=>by cases e),(fun e=>by cases e)⟩
  ·rw [hsame]
   exact⟨c,fun _ h=>h,fun x hx=>by cases hx⟩
structure WI (n:Nat) (G:Reg) (w:AW):Prop where
 core:Core n G w.head w.aA
 net:∀m∈w.net,qB n G w.head w.aA m
 len:w.net.length<=24
theorem Wy {net ms:List Ms} {x:Ms} (h:x∈bW net ms):x∈net∨x∈ms:=by
 unfold bW at h;rcases List.mem_append.1 h with h|h
 ·exact .inl h
 ·exact .inr (List.mem_of_mem_take h)
theorem WA {net:List Ms} (ms:List Ms) (h:net.length<=24):(bW net ms).length<=24:=by
 unfold bW;rw [List.length_append,List.length_take];omega
theorem WI.mk' {n:Nat} {G:Reg} {hd:Hd} {hs:List Hs} {net ms:List Ms} (c:Core n G hd hs) (h1:∀m∈net,qB n G hd hs m) (h2:∀m∈ms,qB n G hd hs m) (hl:net.length<=24):WI n G ⟨hd,hs,bW net ms⟩:=
 ⟨c,fun m hm=>by
  rcases Wy hm with h|h
  ·exact h1 m h
  ·exact h2 m h,WA ms hl⟩
theorem Ez {n:Nat} {G:Reg} {hd:Hd} {hs:List Hs} (c:Core n G hd hs) {k:Nat} {h:Hs} (hk:hs[k]? =some h):∀m∈kX h k,qB n G hd hs m:=by
 intro m hm;unfold kX at hm;obtain⟨r,hr,rfl⟩:=List.mem_map.1 hm;obtain⟨P,hP,hp,hne⟩:=(c.house k h hk).reg r hr;have hlt:=(List.getElem?_eq_some_iff.1 hk).1;have h3:=c.n3;have hl:=c.len;have hin:(k:Int)∈aX P:=kZ.2 ⟨δ,by rw [<-hp];exact hne⟩;exact⟨c.plain hP hin δ δ,c.here hP hin,⟨P,hP,hin,(fun e=>by cases e)⟩,(fun e=>by cases e),(fun e=>by cases e),(fun e=>by cases e),(fun e=>by cases e)⟩
theorem EC {n:Nat} {G:Reg} {hd:Hd} {hs:List Hs} (c:Core n G hd hs):∀m∈pG hd,qB n G hd hs m:=by
 intro m hm;unfold pG at hm;obtain⟨o,ho,hm⟩:=List.mem_flatMap.1 hm;exact Jo c ho m hm
theorem WI.come {n:Nat} {G:Reg} {w:AW} (i:WI n G w) {m:Ms} (hm:qB n G w.head w.aA m) (hl:w.net.length<=24):WI n G (iY w m):=by
 unfold iY;cases hk:w.aA[m.house.toNat]? with
 |none=>exact i
 |some h=>
  simp only;split
  ·obtain⟨c,h1,h2⟩:=i.core.hear hm hk
   exact WI.mk' c (fun x hx=>h1 x (i.net x hx)) h2 hl
  ·obtain⟨c,h1,h2⟩:=i.core.Wx hm
   exact WI.mk' c (fun x hx=>h1 x (i.net x hx)) h2 hl
theorem WI.tick {n:Nat} {G:Reg} {w:AW} (i:WI n G w) (k:Nat):WI n G (rH w k):=by
 unfold rH;split
 ·exact WI.mk' i.core i.net (EC i.core) i.len
 ·cases hk:w.aA[k]? with
  |none=>exact i
  |some h=>exact WI.mk' i.core i.net (Ez i.core hk) i.len
theorem WI.drop {n:Nat} {G:Reg} {w:AW} (i:WI n G w) (k:Nat):WI n G { w with net:=w.net.eraseIdx k }:=
 ⟨i.core,fun m hm=>i.net m (List.mem_of_mem_eraseIdx hm),Nat.le_trans (List.length_eraseIdx_le _ _) i.len⟩
theorem WI.there {n:Nat} {G:Reg} {w:AW} (i:WI n G w) {k:Int} (h:there w k=true):qB n G w.head w.aA (w.net.getD k.toNat ⟨0,0,0,[]⟩):=by
 unfold Go.Proofs.YtocnmkefmgmkbaaGreat.there at h;rw [decide_eq_true_eq] at h;have hl:k.toNat<w.net.length:=by omega
 have:w.net.getD k.toNat ⟨0,0,0,[]⟩=w.net[k.toNat]:=by rw [List.getD_eq_getElem?_getD,List.getElem?_eq_getElem hl];rfl
 rw [this];exact i.net _ (List.getElem_mem _)
theorem WI.step' {n:Nat} {G:Reg} {w:AW} (i:WI n G w) (s:St):∃G',WI n G' (iD w s)/\(G'=G∨(s.kind=1/\∃d,G'=(d,s.parts)::G)):=by
 unfold iD;split
 ·rename_i k1
  split
  ·rename_i hw
   rw [i.core.len] at hw;cases hf:oz w.head with
   |false=>
    obtain⟨c,h1,h2⟩:=i.core.begin hw hf;exact⟨_,WI.mk' c (fun x hx=>h1 x (i.net x hx)) h2 i.len,.inr ⟨k1,_,rfl⟩⟩
   |true=>
    refine⟨G,?_,.inl rfl⟩;have e1:iH w.head s.parts=w.head:=by unfold iH;rw [if_pos hf]
    have e2:jK w.head s.parts=[]:=by unfold jK;rw [if_pos hf]
    rw [e1,e2];exact WI.mk' i.core i.net σ i.len
  ·exact⟨G,i,.inl rfl⟩
 refine⟨G,?_,.inl rfl⟩;split
 ·split
  ·rename_i ht
   have hm:=i.there ht;have i2:=i.drop s.n.toNat;exact i2.come (m:=w.net.getD s.n.toNat ⟨0,0,0,[]⟩) hm i2.len
  ·exact i
 split
 ·split
  ·exact i.drop _
  ·exact i
 split
 ·split
  ·rename_i ht
   refine⟨i.core,fun m hm=>?_,?_⟩
   ·rcases List.mem_append.1 hm with hm|hm
    ·exact i.net m hm
    ·rw [List.mem_singleton.1 hm];exact i.there ht.1
   ·rw [List.length_append];have:=ht.2;simp;omega
  ·exact i
 split
 ·split
  ·by_cases hb:19<w.head.aG
   ·have e:jA w.head=w.head:=by unfold jA;rw [if_pos hb]
    rw [e];exact i
   ·obtain⟨c,h1⟩:=i.core.fall hb
    exact⟨c,fun m hm=>h1 m (i.net m hm),i.len⟩
  ·exact i
 split
 ·split
  ·exact i.tick _
  ·exact i
 split
 ·obtain⟨c,h1,h2⟩:=i.core.quit
  exact WI.mk' c (fun x hx=>h1 x (i.net x hx)) h2 i.len
 ·exact i
theorem WI.step {n:Nat} {G:Reg} {w:AW} (i:WI n G w) (s:St):∃G',WI n G' (iD w s)/\(∀x∈G,x∈G')/\∀x∈G',x∈G∨(s.kind=1/\x.2=s.parts):=by
 obtain⟨G',i',rfl|⟨h1,d,rfl⟩⟩:=i.step' s
 ·exact⟨_,i',fun _ h=>h,fun _ h=>.inl h⟩
 ·refine⟨_,i',fun x hx=>List.mem_cons_of_mem _ hx,fun x hx=>?_⟩
  rcases List.mem_cons.1 hx with rfl|hx
  ·exact .inr ⟨h1,rfl⟩
  ·exact .inl hx
theorem WI.zero {n:Nat} (h:1<=n/\n<=3):WI n [] (pI n):=by
 refine⟨?_,by intro m hm;simp [pI] at hm,by simp [pI]⟩;have hb:(bT [⟨4,0,[]⟩]).aG=1:=by kernel_rfl
 exact {
  len:=by simp [pI]
  n3:=h
  reg:=⟨σ,σ⟩
  old:=by simp
  aG:=by show 1<=(bT [⟨4,0,[]⟩]).aG/\(bT [⟨4,0,[]⟩]).aG<=20;rw [hb];omega
  next:=by show 0<=(0:Int)/\(0:Int)<=64;omega
  pV:=rfl
  tq:=fun d P=>by
   constructor
   ·rintro⟨o,ho,-⟩;cases ho
   ·rintro⟨o,ho,-⟩;cases ho
  Mc:=List.nodup_nil
  qY:=fun o ho=>by cases ho
  NV:=List.nodup_nil
  nO:=fun o ho=>by cases ho
  wB:=Nat.zero_le _
  nP:=fun o ho=>by cases ho
  onew:=fun o ho=>by cases ho
  wC:=fun o ho=>by cases ho
  wE:=fun o ho=>by cases ho
  dec:=⟨(fun r hr=>by cases hr),List.nodup_nil⟩
  held:=fun r hr=>by cases hr
  ends:=fun r hr=>by cases hr
  house:=fun k x hx=>by
   have:x=hs0:=by
    simp only [pI] at hx;rw [List.getElem?_replicate] at hx;split at hx
    ·exact(Option.some.inj hx).symm
    ·cases hx
   rw [this];exact HI.zero _ _ _
  ord:=List.Pairwise.nil
  pre:=fun A B e k q=>by
   have hA:A=[]:=(List.append_eq_nil_iff.1 e.symm).1;rw [hA];simp [tot] }
theorem WI.play {n:Nat}:∀(l:List St) {G:Reg} {w:AW},WI n G w->∃G',WI n G' (jG w l)/\(∀x∈G,x∈G')/\∀x∈G',x∈G∨∃s∈l,s.kind=1/\x.2=s.parts
 | [],G,w,i=>⟨G,i,fun _ h=>h,fun _ h=>.inl h⟩
 |s::l,G,w,i=>by
  obtain⟨G1,i1,a1,b1⟩:=i.step s;obtain⟨G2,i2,a2,b2⟩:=WI.play l i1;refine⟨G2,i2,fun x hx=>a2 x (a1 x hx),fun x hx=>?_⟩;rcases b2 x hx with h|⟨t,ht,h⟩
  ·rcases b1 x h with h|h
   ·exact .inl h
   ·exact .inr ⟨s,List.mem_cons_self,h⟩
  ·exact .inr ⟨t,List.mem_cons_of_mem _ ht,h⟩
theorem WI.Zi {n:Nat} (h:1<=n/\n<=3) (l:List St):∃G,WI n G (jG (pI n) l)/\∀x∈G,∃s∈l,s.kind=1/\x.2=s.parts:=by
 obtain⟨G,i,-,b⟩:=WI.play l (WI.zero h);refine⟨G,i,fun x hx=>?_⟩;rcases b x hx with h|h
 ·cases h
 ·exact h
def Ty.wd:Ty AW where
 size:=6
 R:=fun c cs x=>∃oG zC vhs vA:Value,cs=[oG,ι x.head.aG,ι x.head.next,zC,vhs,vA]/\Sl Ty.rc c oG x.head.log/\I64 x.head.aG/\I64 x.head.next/\Sl Ty.opn c zC x.head.opn/\Sl Ty.hs c vhs x.aA/\uH c vA (x.net.map aS)
 len:=by rintro c cs x ⟨_,_,_,_,rfl,_⟩;rfl
 mono:=by rintro c c' cs x h ⟨a,b,d,e,rfl,h1,h2,h3,h4,h5,h6⟩;exact⟨a,b,d,e,rfl,h1.mono h,h2,h3,h4.mono h,h5.mono h,h6.mono h⟩
theorem Of.fE {c:CM} {v:Value} {x:AW} (hv:Of Ty.wd c v x):∃al cl ao co ah ch an cn,v=.agg #[ς al x.head.log.length cl,ι x.head.aG,ι x.head.next,ς ao x.head.opn.length co,ς ah x.aA.length ch,ς an x.net.length cn]:=by
 obtain⟨cs,rfl,vl,vo,vh,vn,rfl,hl,-,-,ho,hh,hn⟩:=hv;obtain⟨al,cl,rfl,-⟩:=id hl;obtain⟨ao,co,rfl,-⟩:=id ho;obtain⟨ah,ch,rfl,-⟩:=id hh;obtain⟨an,cn,rfl,-⟩:=id hn;exact⟨al,cl,ao,co,ah,ch,an,cn,σ⟩
theorem Of.eu {c:CM} {vl vo vh vn b n:Value} {x:AW} (hv:Of Ty.wd c (.agg #[vl,b,n,vo,vh,vn]) x):Of Ty.hd c (.agg #[vl,b,n,vo]) x.head/\Sl Ty.hs c vh x.aA/\uH c vn (x.net.map aS):=by
 obtain⟨cs,he,ED,jZ,Zj,b7,rfl,hl,hb,hn,ho,hh,hnn⟩:=hv;simp at he;obtain⟨rfl,rfl,rfl,rfl,rfl,rfl⟩:=he;exact⟨⟨_,rfl,_,_,rfl,hl,hb,hn,ho⟩,hh,hnn⟩
theorem Of.ku {c:CM} {vl vo vh vn b n:Value} {hd:Hd} {hs:List Hs} {net:List Ms} (h1:Of Ty.hd c (.agg #[vl,b,n,vo]) hd) (h2:Sl Ty.hs c vh hs) (h3:uH c vn (net.map aS)):Of Ty.wd c (.agg #[vl,b,n,vo,vh,vn]) ⟨hd,hs,net⟩:=by
 obtain⟨cs,he,ED,jZ,rfl,hl,hb,hn,ho⟩:=h1;simp at he;obtain⟨rfl,rfl,rfl,rfl⟩:=he;exact⟨_,rfl,_,_,_,_,rfl,hl,hb,hn,ho,h2,h3⟩
theorem Of.Md {c:CM} {v:Value} {o:Opn} (hv:Of Ty.opn c v o):∃ap cp ah ch,v=.agg #[ι o.deed,ς ap o.parts.length cp,.bool o.dec,ς ah o.heard.length ch]:=by
 obtain⟨cs,rfl,vp,vh,rfl,-,hp,hh⟩:=hv;obtain⟨ap,cp,rfl,-⟩:=id hp;obtain⟨ah,ch,rfl,-⟩:=id hh;exact⟨_,_,_,_,rfl⟩
theorem Of.Hw {c:CM} {d b vp vh:Value} {o:Opn} (hv:Of Ty.opn c (.agg #[d,vp,b,vh]) o):I64 o.deed/\Sl Ty.pt c vp o.parts/\Sl Ty.int c vh o.heard:=by
 obtain⟨cs,he,eI,Zj,rfl,hd,hp,hh⟩:=hv;simp at he;obtain⟨-,rfl,-,rfl⟩:=he;exact⟨hd,hp,hh⟩
theorem qK (w w':World):Sub (ov (fun _=>none) w w') w'.cell?:=fun a v e=>by
 unfold ov at e;split at e
 ·cases e
 ·exact e
theorem aI.Ub {α:Type} {T:Ty α} (h0:0<T.size) {w w':World} {e:Nat} {v:Value} {l:List α} (h:aI T (fr w w' [v.ownBlock]) w' w.heap.size e v l):Sl T (ov (fun _=>none) w w') v l:=
 h.slc h0 (QF _ _ _ _) fun _ ha=>bH ha
structure tu (k:Nat) (w:AW):Prop where
 log:w.head.log.length<=k+1
 logs:∀h∈w.aA,h.log.length<=k
def C9 (n:Nat) (A:List Rd) (sums:List Sm):Prop:=sums.length=n/\∀(k:Nat) s,sums[k]? =some s->∀q:Int,0<=q->q<4->s.get q=tot k q A
theorem Core.all {n:Nat} {G:Reg} {hd:Hd} {hs:List Hs} (c:Core n G hd hs):∀(B A:List Rd) (sums:List Sm),aW hd.log=A++B->C9 n A sums->
  (Tj sums B).2=B.map (fun _=>(0:Int))/\C9 n (aW hd.log) (Tj sums B).1
 | [],A,sums,e,h=>by
  rw [List.append_nil] at e;rw [e];exact⟨rfl,h⟩
 |r::B,A,sums,e,h=>by
  have hr:r∈aW hd.log:=by rw [e];simp
  have hw:bD r.parts n=0:=(c.reg.ok _ (c.dec.reg r hr)).2;have hright:∀(k:Nat) s,sums[k]? =some s->wX s=true:=fun k s hs'=>pJ.2 fun q a b=>by
   rw [h.2 k s hs' q a b];exact c.pre A (r::B) e k q
  have e2:aW hd.log=(A++ [r])++B:=by rw [e];simp
  have hfit:∀(k:Nat) s,sums[k]? =some s->jy s.get (jF r.parts ((0+k:Nat):Int))=0:=fun k s hs'=>by
   rw [Nat.zero_add];refine(DJ hw (hright k s hs') k).2 fun q a b=>?_;have:=c.pre (A++ [r]) B e2 k q;rw [CU,tot,tot,<-h.2 k s hs' q a b] at this;omega
  have hz:=DU (k0:=0) hfit;have hda:uP sums r.parts=(wM r.parts 0 sums,0):=by unfold uP;rw [if_pos hz]
  have h2:C9 n (A++ [r]) (wM r.parts 0 sums):=by
   refine⟨by rw [Gz];exact h.1,fun k s hs' q a b=>?_⟩;rw [Gy] at hs';cases hk:sums[k]? with
   |none=>rw [hk] at hs';simp at hs'
   |some t=>
    rw [hk] at hs';simp only [Option.map_some,Option.some.injEq,Nat.zero_add] at hs';rw [<-hs',QJ hw (hright k t hk) k a b,h.2 k t hk q a b,CU,tot,tot];omega
  obtain⟨i1,i2⟩:=Core.all c B (A++ [r]) _ e2 h2;show(uP sums r.parts).2::(Tj (uP sums r.parts).1 B).2=0::B.map (fun _=>(0:Int))/\C9 n _ (Tj (uP sums r.parts).1 B).1;rw [hda];exact⟨by rw [i1],i2⟩
end Go.Proofs.YtocnmkefmgmkbaaGreat
