/- Parts of proofs, joined: R2, B1, B5, Y0, Z1, Str, Z2, Y2, Y1, V2, R3, B2, Y6, Y3, Y5, Y7, R1, Y4, Y8, R5, R6, R7, R8, B4, R9, R10, Lit, A4, A2, K17, Z3, Z5, Z6, Q2, Q3, Q4, Q5, Q6, Q7, U0, Q8. No condition beside those that each theorem names. -/
import Derived.Laws.BitsAllLaws
import Derived.Laws.Bits64
import Derived.Laws.BytesArg
import Derived.Lib.SlBytesRow
import Derived.Sort.OwnSortedInts
import Derived.Test.YtocnmkefmgmkbaaGreatShelf
import Derived.IntWalk
import Derived.Deep.Cut
import Derived.Deep.DeepCutAuto
import Derived.Laws.CopyRow
import Derived.Test.YtocnmkefmgmkbaaGreatJE1b
import Derived.Test.YtocnmkefmgmkbaaGreatJE6a
set_option maxRecDepth 100000
set_option maxHeartbeats 40000000
namespace Go.Proofs.YtocnmkefmgmkbaaGreat
open Go.RowKit
theorem kE {w w':World} {base:Nat} {e:TypeId} {size n:Nat} {v:Value} {xs:List Value} (h:w.ownsRow base e size v n xs) (hg:aK w w'):w'.ownsRow base e size v n xs:=
 h.kept (aO hg none) (by cases v.ownBlock with|none=>exact .inl rfl|some k=>exact .inr σ)
theorem kI (l:List Pt) (n:Int):(l.any fun p=>p.h==n)=decide (0<(jT l n).length):=by
 unfold jT;rw [Bool.eq_iff_iff,List.any_eq_true,decide_eq_true_eq,List.length_pos_iff_exists_mem];constructor
 ·rintro⟨p,hp,h⟩;exact⟨p,List.mem_filter.2 ⟨hp,h⟩⟩
 ·rintro⟨p,hp⟩;exact⟨p,(List.mem_filter.1 hp).1,(List.mem_filter.1 hp).2⟩
def qU (l:List Pt) (k:Nat):List Int:=(([0,1,2]:List Int).take k).filter fun n=>l.any fun p=>p.h==n
theorem ZW (l:List Pt) {k:Nat} (h:k<3):qU l (k+1)=qU l k++if 0<(jT l k).length then [(k:Int)] else []:=by
 have e:([0,1,2]:List Int).take (k+1)=([0,1,2]:List Int).take k++ [(k:Int)]:=by
  match k,h with
  |0,_=>rfl
  |1,_=>rfl
  |2,_=>rfl
 unfold qU;rw [e,List.filter_append];congr 1;by_cases h0:0<(jT l k).length
 ·rw [bC h0,List.filter_cons_of_pos (by rw [kI];exact decide_eq_true h0)];rfl
 ·rw [aV h0,List.filter_cons_of_neg (by rw [kI];simpa using h0)];rfl
theorem QI (l:List Pt) (k:Nat):(qU l k).length<=3:=Nat.le_trans (List.length_filter_le _ _) (by simp;omega)
theorem Ee {v:Value} {l:List Pt} (w:World) (hv:pX w.cell? v l) (hm:l.length*24<=140737488355328):
  Calls Tryz.prog 99 #[v] w fun e w'=>∃v',e=.returned v'/\w'.ownsRow w.heap.size 3 1 v' (dB l).length ((dB l).flatMap eX)/\aK w w':=by
 have CT:=I (fun(n:Int) (W:World) (hW:aK w W)=>KE (n:=n) W (hv.mono hW.sub) hm);clear hv;go_enter Tryz.func99,Tryz.ntmps99;go_wp2;go_loopw [3,4,5] (fun v _ i wr=>∃k:Nat,k<=3/\i=J k/\aK w wr/\wr.ownsRow w.heap.size 3 1 v (qU l k).length ((qU l k).flatMap eX)) (fun _ _ i _=>3 - (intOf i).toNat)
 case atStart=>exact⟨0,V,rfl,aG _,World.ownsRow_nil _ _ _ _⟩
 case round=>
  obtain⟨k,hk',rfl,hb,bU⟩:=hrel;by_cases hlt:k<3
  ·have HD:=I (ZW l hlt)
   have hle:=QI l k;have HB:=I hb;have HOW:=I bU;generalize qU l k=acc at*;clear bU hb;go_wp2_with fail
   refine(CT.o _ _ HB.o).mono ?_;rintro e w1 ⟨v1,rfl,qM,dZ⟩;obtain⟨a1,c1,rfl⟩:=dG qM;have oW:=I (HB.o.trans dZ);have xA:=I (kE HOW.o dZ);clear qM dZ;generalize (jT l k).length=m at*;by_cases h0:0<m
   ·have HD1:=I (show qU l (k+1)=acc++ [(k:Int)] by rw [HD.o,bC h0])
    go_wp2_with (at_builtin;refine app1 jL rfl _ _ rfl oW.o rfl xA.o rfl σ rfl (by simp [Value.oneCell']) V ε ?_;intro v' w' hown' hb' _)
    go_roundw
    case rel=>exact⟨k+1,V,by go_num,hb',by rw [HD1.o];simpa [eX] using hown'⟩
    case measure=>simp [intOf];omega
   ·obtain rfl:m=0:=by omega
    have HD1:=I (show qU l (k+1)=acc by rw [HD.o,aV h0,List.append_nil]);go_wp2_with fail
    go_roundw
    case rel=>exact⟨k+1,V,by go_num,oW.o,by rw [HD1.o];exact xA.o⟩
    case measure=>simp [intOf];omega
  ·obtain rfl:k=3:=by omega
   go_wp2;go_ret;exact⟨_,rfl,bU,hb⟩
end Go.Proofs.YtocnmkefmgmkbaaGreat
namespace Go.Proofs.YtocnmkefmgmkbaaGreat
def CO (s:Nat) (c:UInt8):Nat:=(s*263+c.toNat+1) % 65521
def uV (s:Nat) (b:List UInt8):Nat:=b.foldl CO s
def xX (b:List UInt8):Nat:=uV 5 b
theorem WR (s:Nat) (c:UInt8):CO s c<65521:=Nat.mod_lt _ ε
theorem zJ:∀(b:List UInt8) {s:Nat},s<65521->uV s b<65521
 | [],_,h=>h
 |c::b,_,_=>zJ b (WR _ c)
theorem Fq (b:List UInt8):xX b<65521:=zJ b ε
def varint (u:Nat):List UInt8:=if u<128 then [UInt8.ofNat u] else UInt8.ofNat (u % 128+128)::varint (u/128)
termination_by u
decreasing_by omega
theorem qV {u:Nat} (h:u<128):varint u=[UInt8.ofNat u]:=by rw [varint,bC h]
theorem zK {u:Nat} (h:¬u<128):varint u=UInt8.ofNat (u % 128+128)::varint (u/128):=by rw [varint,aV h]
theorem Ef (u:Nat):0<(varint u).length:=by
 by_cases h:u<128
 ·rw [qV h];simp
 ·rw [zK h];simp
def zig (n:Int):Nat:=if n<0 then 2*(-n - 1).toNat+1 else 2*n.toNat
def zag (u:Nat):Int:=if u % 2=1 then -((u/2:Nat):Int) - 1 else((u/2:Nat):Int)
theorem C0 (n:Int):zag (zig n)=n:=by
 unfold zag zig;by_cases h:n<0
 ·rw [bC h,bC V];omega
 ·rw [aV h,aV V];omega
def jC (n:Int):List UInt8:=varint (zig n)
def qw (i u:Nat):List UInt8->Int×Int×Int
 | []=>(0,0,8)
 |c::b=>if 6<=i then(0,0,3) else if 128<=c.toNat then qw (i+1) (u+c.toNat % 128*128^i) b
  else if 0<i/\c.toNat=0 then(0,0,2) else(zag (u+c.toNat % 128*128^i),(i:Int)+1,0)
def gU (b:List UInt8):Int×Int×Int:=qw 0 0 b
theorem qx {u:Nat} (h:u<256):(UInt8.ofNat u).toNat=u:=by rw [UInt8.toNat_ofNat'];omega
theorem WS:∀(v i u:Nat) (b:List UInt8),i<6->v<128^(6 - i)->(0<v∨i=0)->qw i u (varint v++b)=(zag (u+v*128^i),(i:Int)+(varint v).length,0):=by
 intro v;induction v using Nat.strongRecOn with
 |ind v ih=>
  intro i u b hi hv h0;by_cases h:v<128
  ·rw [qV h,List.singleton_append,qw,aV V,qx V,aV V,aV V,Nat.mod_eq_of_lt h]
   simp
  ·have hi5:i+1<6:=by
    by_cases h5:i=5
    ·subst h5
     have:(128:Nat)^(6 - 5)=128:=rfl;omega
    ·omega
   have hp:(128:Nat)^(6 - i)=128*128^(6 - (i+1)):=by rw [show 6 - i=(6 - (i+1))+1 by omega,Nat.pow_succ,Nat.mul_comm]
   rw [zK h,List.cons_append,qw,aV V,qx V,bC V,show(v % 128+128) % 128=v % 128 by omega,
    ih (v/128) V (i+1) _ b hi5 (by rw [hp] at hv;exact Nat.div_lt_of_lt_mul hv) (.inl V)]
   have e:u+v % 128*128^i+v/128*128^(i+1)=u+v*128^i:=by
    have N:v/128*128^(i+1)=128*(v/128)*128^i:=by rw [Nat.pow_succ,Nat.mul_comm (128^i) 128,<-Nat.mul_assoc,Nat.mul_comm (v/128) 128]
    rw [N,Nat.add_assoc,<-Nat.add_mul,Nat.mod_add_div]
   rw [e];simp only [List.length_cons,Prod.mk.injEq,true_and,and_true];push_cast;omega
theorem C2 {n:Int} (b:List UInt8) (h:zig n<128^6):gU (jC n++b)=(n,((jC n).length:Int),0):=by
 unfold gU jC;rw [WS _ 0 0 b V h (.inr rfl)];simp [C0]
end Go.Proofs.YtocnmkefmgmkbaaGreat
namespace Go.Proofs.YtocnmkefmgmkbaaGreat
open Go.RowKit
theorem A06:∀x:Nat,x<256->x|||128=x % 128+128:=by decide
theorem WT {x:Nat} (h:x<256):bits .or .u8 (x:Int) 128=((x % 128+128:Nat):Int):=by
 have:=u8_or_nat x 128 h ε;rw [A06 x h] at this;simpa using this
theorem Ug {x:Nat} (h:x<256):bits .and .u8 (x:Int) 127=((x % 128:Nat):Int):=by
 have:=u8_and_nat x 127 h ε;rw [nat_mask7] at this;simpa using this
theorem ZX {x:Nat} (h:x<18446744073709551616):bits .and .u64 (x:Int) 1=((x % 2:Nat):Int):=by
 have:=u64_and_nat x 1 h ε;rw [nat_mask1] at this;simpa using this
theorem SF (i:Nat):(2:Nat)^(7*i)=128^i:=by rw [Nat.pow_mul]
theorem WU {u v i:Nat} (hu:u<128^i) (hv:v<128) (hi:i<6):bits .or .u64 (u:Int) ((v*128^i:Nat):Int)=((u+v*128^i:Nat):Int):=by
 have h6:(128:Nat)^i<=128^5:=Nat.pow_le_pow_right ε V;have h5:(128:Nat)^5=34359738368:=by decide
 have hm:v*128^i<=127*128^i:=Nat.mul_le_mul_right _ V;rw [u64_or_nat u (v*128^i) V V,Nat.or_comm,nat_join (7*i) (v*128^i) u (by rw [SF];exact Nat.mul_mod_left _ _) (by rw [SF];exact hu),Nat.add_comm]
theorem Uh (b:Nat) (hb:b<2^64):(2^64 - 1)^^^b=2^64 - 1 - b:=by
 apply Nat.eq_of_testBit_eq;intro i;rw [Nat.testBit_xor,Nat.testBit_two_pow_sub_one,show 2^64 - 1 - b=2^64 - (b+1) by omega,Nat.testBit_two_pow_sub_succ hb];by_cases hi:i<64
 ·simp [hi]
 ·have:b.testBit i=false:=Nat.testBit_lt_two_pow (Nat.lt_of_lt_of_le hb (Nat.pow_le_pow_right ε V))
  simp [hi,this]
theorem Jp {x:Nat} (h:x<18446744073709551616):(BitVec.ofInt 64 (x:Int)).toNat=x:=ofInt_u64 x h
theorem kO {u:Nat} (h:u<9223372036854775808):bits .xor .i64 ((u/2:Nat):Int) (-((u % 2:Nat):Int))=zag u:=by
 show IntKind.i64.wrap ((BitVec.ofInt 64 ((u/2:Nat):Int)^^^BitVec.ofInt 64 (-((u % 2:Nat):Int))).toNat:Int)=_;unfold zag;by_cases N:u % 2=1
 ·rw [bC N,N,BitVec.toNat_xor,Jp V,show(BitVec.ofInt 64 (-((1:Nat):Int))).toNat=2^64 - 1 by decide,Nat.xor_comm,Uh _ V,IntKind.wrap_i64]
  omega
 ·have h0:u % 2=0:=by omega
  rw [aV N,h0,BitVec.toNat_xor,Jp V,show(BitVec.ofInt 64 (-((0:Nat):Int))).toNat=0 by decide,Nat.xor_zero,IntKind.wrap_i64];omega
theorem k_ {n:Int} (h0:-9223372036854775808<=n) (N:n<=9223372036854775807):bits .xor .u64 ((n*2) % 18446744073709551616) (if n<0 then 18446744073709551615 else 0)=((zig n:Nat):Int):=by
 unfold zig;by_cases h:n<0
 ·rw [bC h,bC h]
  have e1:(n*2) % 18446744073709551616=(((2*n+18446744073709551616).toNat:Nat):Int):=by omega
  have e2:(18446744073709551615:Int)=((18446744073709551615:Nat):Int):=rfl;rw [e1,e2,u64_xor_nat _ _ V ε,Nat.xor_comm];have:=Uh (2*n+18446744073709551616).toNat V;rw [show(2:Nat)^64 - 1=18446744073709551615 by decide] at this;rw [this];omega
 ·rw [aV h,aV h]
  have e1:(n*2) % 18446744073709551616=(((2*n).toNat:Nat):Int):=by omega
  have e2:(0:Int)=((0:Nat):Int):=rfl;rw [e1,e2,u64_xor_nat _ _ V ε,Nat.xor_zero];omega
abbrev OwnB (w:World) (base:Nat) (v:Value) (b:List UInt8):Prop:=w.ownsRow base 5 1 v b.length (b.flatMap jf)
def mF (w w':World) (v v':Value):Prop:=w.grownBy w' v.ownBlock/\(v'.ownBlock=v.ownBlock∨∃g,v'.ownBlock=some g/\w.heap.size<=g)
theorem mF.refl (w:World) (v:Value):mF w w v v:=⟨⟨rfl,rfl,rfl,Nat.le_refl _,fun _ _ _=>rfl⟩,.inl rfl⟩
theorem mF.trans {a b c:World} {u v x:Value} (h:mF a b u v) (k:mF b c v x):mF a c u x:=by
 obtain⟨N,Y⟩:=h;obtain⟨k1,k2⟩:=k;refine⟨⟨k1.os.trans N.os,k1.tape.trans N.tape,k1.output.trans N.output,Nat.le_trans N.size k1.size,fun i hi hne=>?_⟩,?_⟩
 ·rw [k1.block i (Nat.lt_of_lt_of_le hi N.size),N.block i hi hne]
  intro e;rcases Y with Y|⟨g,Y,hg⟩
  ·exact hne (e.trans Y)
  ·rw [Y] at e
   obtain rfl:=bI e;omega
 ·rcases k2 with k2|⟨g,k2,hg⟩
  ·rcases Y with Y|⟨g,Y,hg⟩
   ·exact .inl (k2.trans Y)
   ·exact .inr ⟨g,k2.trans Y,hg⟩
  ·exact .inr ⟨g,k2,Nat.le_trans N.size hg⟩
theorem mF.grow {a b c:World} {u v:Value} (h:mF a b u v) (k:aK b c):mF a c u v:=h.trans ⟨aO k _,.inl rfl⟩
theorem mF.ahead {a b c:World} {u v:Value} (k:aK a b) (h:mF b c u v):mF a c u v:=mF.trans (v:=u) ⟨aO k _,.inl rfl⟩ h
theorem mF.all {w0 w w':World} {v v':Value} (hG:aK w0 w) (h:mF w w' v v') (hv:∀k,v.ownBlock=some k->w0.heap.size<=k):aK w0 w':=hG.grown h.1 hv
theorem mF.nil {w w':World} {v':Value} (h:mF w w' (U none 0 0) v'):aK w w':=(aG w).grown h.1 (fun k hk=>by simp [Value.ownBlock] at hk)
theorem Lu (a b:List UInt8):a.flatMap jf++b.flatMap jf=(a++b).flatMap jf:=by rw [List.flatMap_append]
theorem Ui {w0:World} {cs:Array Value} {t:TypeId} {ops:Array Oper} {rest:List Oper} {o:Oper} {a:Act} {Q:Exit->Act->World->Prop} (hgd:o.guard=none) (s x:Operand)
  (ho:o.op=.call { callee:=.builtin .append,args:=#[s,x],argTypes:=#[97,97] })
  {base:Nat} {v:Value} {b:List UInt8} (hs:a.eval s=v) (bU:OwnB w0 base v b) (hbase:base<=w0.heap.size)
  {g n c:Nat} (Z:a.eval x=U (some ⟨g,0,none⟩) n c) (hg:g=w0.heap.size) (ys:List UInt8) (hy:cs.toList=ys.flatMap jf) (hn:n=ys.length)
  (hlen:b.length+ys.length<=140737488355328)
  (h:∀v' w',OwnB w' base v' (b++ys)->mF w0 w' v v'->wpList Tryz.prog ops Q rest (a.put o.dst v') w'):wpList Tryz.prog ops Q (o::rest) a (w0.alloc (.cells cs t)):=by
 subst hg;subst hn;have hG:aK w0 (w0.alloc (.cells cs t)):=(aG w0).alloc _;have hone:∀u∈cs.toList,u.oneCell'=true:=by rw [hy];exact yx one_byte ys
 refine KC ER hgd s x ho hs (bU.alloc _) (some ⟨w0,0,none⟩) ys.length c cs.toList Z σ (by rw [hy,qG (size:=1) (fun _=>rfl)]) (fun ad had=>by obtain rfl:=bI had;exact rP w0 cs t) hone (by unfold maxLen;omega) V (τ hG.size) fun a' c' w' hA=>?_;have N:=hA.own;rw [hy,Lu] at N;refine h _ w' ?_ (mF.ahead hG ⟨hA.grown,hA.blk⟩);have e:b.length+ys.length=(b++ys).length:=by simp
 rw [e] at N ⊢;exact N
theorem fJ {n:Int} (h:I64 n):-9223372036854775808<=n/\n<=9223372036854775807:=by
 simp [I64,Lit.wf,IntKind.min,IntKind.max,IntKind.signed,IntKind.bits] at h;omega
theorem LC:∀(k u:Nat),u<128^k->(varint u).length<=k∨(k=0/\(varint u).length=1)
 |0,u,h=>by
  refine .inr ⟨rfl,?_⟩;rw [qV (by simp at h;omega)];rfl
 |k+1,u,h=>by
  by_cases hs:u<128
  ·rw [qV hs];exact .inl σ
  ·rw [zK hs]
   have Y:u/128<128^k:=by
    rw [Nat.pow_succ] at h;exact Nat.div_lt_of_lt_mul (by rw [Nat.mul_comm];exact h)
   rcases LC k (u/128) Y with h3|⟨rfl,h3⟩
   ·exact .inl (by simpa using h3)
   ·exfalso
    simp at Y;omega
theorem lF {n:Int} (h0:-9223372036854775808<=n) (N:n<=9223372036854775807):(jC n).length<=10:=by
 unfold jC;have hz:zig n<128^10:=by
  have e:(128:Nat)^10=1180591620717411303424:=by decide
  rw [e];unfold zig;split<;>omega
 rcases LC 10 _ hz with h|⟨h,-⟩
 ·exact h
 ·omega
theorem r_ (x:Nat):((UInt8.ofNat x).toNat:Int)=((x % 256:Nat):Int):=by rw [UInt8.toNat_ofNat']
theorem Uj (s:Nat) (b:List UInt8) (k:Nat) (h:k<b.length):uV s (b.take (k+1))=CO (uV s (b.take k)) b[k]:=by
 rw [List.take_succ_eq_append_getElem h];unfold uV;rw [List.foldl_append];rfl
abbrev Ty.bs:=Ty.sl Ty.byte
abbrev yS:=Sl Ty.bs
theorem bK.bytes {c:CM} {w:World} {base:Nat} {v:Value} {l:List UInt8} (h:OwnB w base v l):bK Ty.byte c w base 5 v l:=
 bK.of_flat (T:=Ty.byte) (f:=jf) h fun _ _=>rfl
theorem QJ {W0 w1 w:World} {v:Value} {l:List UInt8} {X:List (Option Nat)} (h:OwnB w w1.heap.size v l) (hW:W0.heap.size<=w1.heap.size) (hX:∀k,w1.heap.size<=k->some k∉X):Sl Ty.byte (fr W0 w X) v l:=
 (bK.bytes (c:=fr W0 w X) h).slc ε (Sub.refl _) fun a ha=>jh V (hX _ ha)
theorem yS.at_ {c:CM} {a:Option Addr} {l:List (List UInt8)} (h:∀i x,l[i]? =some x->∃b o cs,a=some ⟨b,o,none⟩/\Ty.bs.R c cs x/\At c b (o+i*Ty.bs.size) cs) (k:Nat) (hk:k<l.length):
  ∃b o v,a=some ⟨b,o,none⟩/\c ⟨b,o+k,none⟩=some v/\Sl Ty.byte c v l[k]:=by
 obtain⟨b,o,cs,ha,⟨v,rfl,hR⟩,hA⟩:=h k l[k] (by simp [hk]);refine⟨b,o,v,ha,?_,hR⟩;have:=hA 0 _ rfl;simpa [Ty.sl] using this
theorem J5 {v:Value} {l:List (List UInt8)} (w:World) (hv:yS w.cell? v l) (hm:l.length*24<=140737488355328) (hp:∀b∈l,b.length<=140737488355328):
  Calls Tryz.prog 61 #[v] w fun e w'=>∃v',e=.returned v'/\bK Ty.bs (fr w w' [v'.ownBlock]) w' w.heap.size 97 v' l/\aK w w':=by
 obtain⟨a,cap,rfl,N,Y,-,hel⟩:=hv;unfold maxLen at Y;have HM:=I hm;have HP:=I hp;clear hm hp;go_enter Tryz.func61,Tryz.ntmps61;go_wp2;go_loopw [3,8] (fun s3 i wr=>∃k:Nat,k<=l.length/\i=J k/\aK w wr/\bK Ty.bs (fr w wr [s3.ownBlock]) wr w.heap.size 97 s3 (l.take k)) (fun _ i _=>l.length - (intOf i).toNat)
 case atStart=>exact⟨0,V,rfl,aG _,bK.nil _ _ _ _ _⟩
 case round=>
  obtain⟨k,hk',rfl,hb,bU⟩:=hrel;by_cases hlt:k<l.length
  ·obtain⟨b,o,vp,rfl,c0,hP⟩:=yS.at_ hel k hlt
   obtain⟨ap,cp,rfl,-⟩:=id hP;replace c0:=hb.sub _ _ c0;have htk:l.take (k+1)=l.take k++ [l[k]]:=by rw [List.take_succ_eq_append_getElem hlt]
   have nK:=I htk;have hpl:=HP.o l[k] (List.getElem_mem _);have Je:=I (fun(W:World) (hW:aK wr W)=>KY W (hP.mono (hb.trans hW).sub) V);have hlk:(l.take k).length=k:=by simp;omega
   have dX:=I bU;obtain⟨av,cv,rfl⟩:=bU.form;clear hel hP htk hpl bU;generalize l[k]=r at*;generalize hlt':l.take k=lk at*;have CB:=I hlk;clear hlt' hlk;go_wp2_with fail
   refine(Je.o _ (aG _)).mono ?_;rintro e w2 ⟨v2,rfl,wS,gB⟩;obtain⟨a2,uz,rfl⟩:=dG wS;have pI:=I wS;have jq:=I gB;clear wS gB;go_wp2_with (first|(at_builtin;refine cO (c:=fr w (w2.alloc (.cells #[U a2 r.length uz] 97)) [(Value.slice av lk.length cv).ownBlock]) (base:=w.heap.size) (l:=lk) (m:=[r]) oq rfl (lW Ty.byte) ε rfl (.tmp 12) (.tmp 15) rfl rfl ?own rfl (Src.dU (T:=Ty.bs) (x:=r) (cs:=#[U a2 r.length uz]) ?d0 _ _ ?d1) ?d2 ?d3 ?_))
   case own=>exact(dX.o.mono (fH (jq.o.alloc _))).grow (jq.o.alloc _)
   case d0=>
    refine⟨_,rfl,?_⟩;have hlt2:=dX.o.lt;refine QJ (w1:=wr) ?_ hb.size ?_
    ·exact kE pI.o ((aG _).alloc _)
    ·intro q O
     simp only [List.mem_singleton];intro e;have:=(hlt2 q e.symm).2;omega
   case d1=>simp
   case d2=>have:=HM.o;have:=CB.o;simp;omega
   case d3=>have:=(jq.o.alloc (.cells #[U a2 r.length uz] 97)).size;have:=hb.size;omega
   intro a5 c5 w5 xC uG iY;have Yq:aK w w5:=dI (w0:=w) (hb.trans (jq.o.alloc _)) uG (fun q O=>(dX.o.lt q O).1);have oQ:=I (xC.mono (uy uG (iY.imp_right fun⟨g,e,hge⟩=>⟨g,e,by simpa using hge⟩)));have wW:=I Yq;clear xC uG iY Yq;go_wp2;go_roundw
   case rel=>exact⟨k+1,V,by go_num,wW.o,by rw [nK.o];exact oQ.o⟩
   case measure=>simp [intOf];omega
  ·clear hel
   go_wp2;go_ret;have h9:=bU;rw [eG V] at h9;exact⟨_,rfl,h9,hb⟩
theorem C3 {u:Nat} {y:Int} (hy:y=bits .or .u8 ((u % 256:Nat):Int) 128):y=((UInt8.ofNat (u % 128+128)).toNat:Int):=by
 rw [hy,WT V,r_];omega
theorem lA {u:Nat} {z:UInt8} (hz:z=UInt8.ofNat (u % 128+128)):bits .or .u8 ((u:Int) % 256) 128=(z.toNat:Int):=by
 rw [hz];exact C3 (by rw [Int.natCast_emod];rfl)
theorem LD {u:Nat} (_:u<128) {y:Int} (hy:y=((u % 256:Nat):Int)):y=((UInt8.ofNat u).toNat:Int):=by
 rw [hy,r_]
theorem LG {pre:List UInt8} {u:Nat} {X:List UInt8} (h:pre++varint u=X) (hu:¬u<128):(pre++ [UInt8.ofNat (u % 128+128)])++varint (u/128)=X:=by
 rw [<-h,zK hu,List.append_assoc];rfl
theorem LH {pre:List UInt8} {u:Nat} {X:List UInt8} (h:pre++varint u=X) (hu:u<128):pre++ [UInt8.ofNat u]=X:=by
 rw [<-h,qV hu]
theorem lB {n:Int} (h0:-9223372036854775808<=n) (N:n<=9223372036854775807):bits .xor .u64 (IntKind.u64.wrap (IntKind.u64.wrap n*2)) (IntKind.u64.wrap (n/9223372036854775808))=((zig n:Nat):Int):=by
 rw [<-k_ h0 N,IntKind.wrap_u64,IntKind.wrap_u64,IntKind.wrap_u64];have e1:n % 18446744073709551616*2 % 18446744073709551616=(n*2) % 18446744073709551616:=by omega
 have e2:n/9223372036854775808 % 18446744073709551616=if n<0 then 18446744073709551615 else 0:=by
  split<;>omega
 rw [e1,e2]
def fN (u:Nat):Prop:=u<18446744073709551616
theorem fN.div {u:Nat} (h:fN u):fN (u/128):=by unfold fN at*;omega
theorem Yy {n:Int} (h0:-9223372036854775808<=n) (N:n<=9223372036854775807):fN (zig n):=by unfold fN zig;split<;>omega
theorem Bg {base:Nat} {v:Value} {b:List UInt8} {n:Int} (w:World) (bU:OwnB w base v b) (hbase:base<=w.heap.size) (hn:I64 n) (hlen:b.length+10<=140737488355328):
  Calls Tryz.prog 126 #[v,J n] w fun e w'=>∃v',e=.returned v'/\OwnB w' base v' (b++jC n)/\mF w w' v v':=by
 obtain⟨h0,N⟩:=fJ hn;have HZ:=I (lB h0 N);have HL:=I (lF h0 N);have hz:=Yy h0 N;have HO:=I bU;obtain⟨a0,k0,rfl⟩:=dG bU;clear bU;go_enter Tryz.func126,Tryz.ntmps126;go_wp2;go_loopw [0,5] (fun bv u wr=>∃(u':Nat) (pre:List UInt8),u=.int .u64 u'/\fN u'/\pre++varint u'=jC n/\OwnB wr base bv (b++pre)/\mF w wr (U a0 b.length k0) bv) (fun _ u _=>(intOf u).toNat)
 case atStart=>exact⟨zig n,[],congrArg (Value.int .u64) HZ.o,hz,rfl,by simpa using HO.o,mF.refl _ _⟩
 case round=>
  obtain⟨u,pre,rfl,hu,hE,bU,hM⟩:=hrel;obtain⟨a1,k1,rfl⟩:=dG bU;have hpl:pre.length<=9:=by
   have N:=congrArg List.length hE;have Y:=HL.o;have h3:=Ef u;rw [List.length_append] at N;omega
  have xA:=I bU;have Uf:=I hM;have hsz:base<=wr.heap.size:=Nat.le_trans hbase hM.1.size;by_cases hlt:u<128
  ·have HE:=I (LH hE hlt)
   clear hE bU hM;generalize (b++pre).length=nn at*;go_wp2_with (at_builtin;refine Ui rfl _ _ rfl rfl xA.o hsz rfl rfl [UInt8.ofNat u] ?e0 rfl ?e1 ?_)
   case e0=>exact congrArg (fun x=>[Value.int .u8 x]) (LD hlt (by go_num))
   case e1=>simp;omega
   intro v' w' ho hm;have pI:=I ho;have yI:=I (Uf.o.trans hm);clear ho hm;go_wp2;go_ret;exact⟨_,rfl,by rw [<-HE.o];exact pI.o,yI.o⟩
  ·have he2:=LG hE hlt
   obtain⟨z,hz⟩:=χ (UInt8.ofNat (u % 128+128));rw [<-hz] at he2;have HE:=I he2;have HB:=I (lA hz);clear hE bU hM he2 hz;generalize (b++pre).length=nn at*;go_wp2_with (at_builtin;refine Ui rfl _ _ rfl rfl xA.o hsz rfl rfl [z] ?e0 rfl ?e1 ?_)
   case e0=>exact congrArg (fun x=>[Value.int .u8 x]) HB.o
   case e1=>simp;omega
   intro v' w' ho hm;have pI:=I ho;have yI:=I (Uf.o.trans hm);clear ho hm;go_wp2;go_roundw
   case rel=>exact⟨u/128,pre++ [z],by go_num,hu.div,HE.o,pI.o,yI.o⟩
   case measure=>simp [intOf];omega
theorem fN.wrap {u:Nat} (h:fN u):IntKind.u64.wrap ((u:Int)/128)=(u:Int)/128:=by
 unfold fN at h;rw [IntKind.wrap_u64];omega
theorem Uk {u:Nat} {z:UInt8} (hz:z=UInt8.ofNat (u % 128+128)):(u:Int) % 128+128=(z.toNat:Int):=by
 rw [hz,r_];omega
theorem C5 {n:Int} (h:n<0):-(n+1)*2+1=((zig n:Nat):Int):=by
 unfold zig;rw [bC h];omega
theorem C6 {n:Int} (h:¬n<0):n*2=((zig n:Nat):Int):=by
 unfold zig;rw [aV h];omega
theorem su {n:Int} (w:World) (hn:I64 n):
  Calls Tryz.prog 127 #[J n] w fun e w'=>∃v',e=.returned v'/\OwnB w' w.heap.size v' (jC n)/\aK w w':=by
 obtain⟨h0,N⟩:=fJ hn;have HL:=I (lF h0 N);have hz:=Yy h0 N;by_cases hneg:n<0
 ·have HZN:=I (C5 hneg)
  go_enter Tryz.func127,Tryz.ntmps127;go_wp2;go_loopw [3,4] (fun u bv wr=>∃(u':Nat) (pre:List UInt8),u=.int .u64 u'/\fN u'/\pre++varint u'=jC n/\OwnB wr w.heap.size bv pre/\aK w wr) (fun u _ _=>(intOf u).toNat)
  case atStart=>exact⟨zig n,[],congrArg (Value.int .u64) HZN.o,hz,rfl,World.ownsRow_nil _ _ _ _,je⟩
  case round=>
   obtain⟨u,pre,rfl,hu,hE,bU,hM⟩:=hrel;obtain⟨a1,k1,rfl⟩:=dG bU;have hpl:pre.length<=9:=by
    have N:=congrArg List.length hE;have Y:=HL.o;have h3:=Ef u;rw [List.length_append] at N;omega
   have xA:=I bU;have Uf:=I hM;have hsz:=hM.size;by_cases hlt:u<128
   ·have HE:=I (LH hE hlt)
    clear hE bU hM;go_wp2_with (at_builtin;refine Ui rfl _ _ rfl rfl xA.o hsz rfl rfl [UInt8.ofNat u] ?e0 rfl ?e1 ?_)
    case e0=>exact congrArg (fun x=>[Value.int .u8 x]) (LD hlt (by go_num))
    case e1=>simp;omega
    intro v' w' ho hm;have pI:=I ho;have yI:=I (hm.all Uf.o (fun k hk=>(xA.o.lt k hk).1));clear ho hm;go_wp2;go_ret;exact⟨_,rfl,by rw [<-HE.o];exact pI.o,yI.o⟩
   ·have he2:=LG hE hlt
    obtain⟨z,hz⟩:=χ (UInt8.ofNat (u % 128+128));rw [<-hz] at he2;have HE:=I he2;have HB:=I (Uk hz);clear hE bU hM he2 hz;have O:=hu.wrap;go_wp2_with (at_builtin;refine Ui rfl _ _ rfl rfl xA.o hsz rfl rfl [z] ?e0 rfl ?e1 ?_)
    case e0=>exact congrArg (fun x=>[Value.int .u8 x]) HB.o
    case e1=>simp;omega
    intro v' w' ho hm;have pI:=I ho;have yI:=I (hm.all Uf.o (fun k hk=>(xA.o.lt k hk).1));clear ho hm;go_wp2;go_roundw
    case rel=>exact⟨u/128,pre++ [z],by go_num,hu.div,HE.o,pI.o,yI.o⟩
    case measure=>simp [intOf];omega
 ·have HZN:=I (C6 hneg)
  go_enter Tryz.func127,Tryz.ntmps127;go_wp2;go_loopw [3,4] (fun u bv wr=>∃(u':Nat) (pre:List UInt8),u=.int .u64 u'/\fN u'/\pre++varint u'=jC n/\OwnB wr w.heap.size bv pre/\aK w wr) (fun u _ _=>(intOf u).toNat)
  case atStart=>exact⟨zig n,[],congrArg (Value.int .u64) HZN.o,hz,rfl,World.ownsRow_nil _ _ _ _,je⟩
  case round=>
   obtain⟨u,pre,rfl,hu,hE,bU,hM⟩:=hrel;obtain⟨a1,k1,rfl⟩:=dG bU;have hpl:pre.length<=9:=by
    have N:=congrArg List.length hE;have Y:=HL.o;have h3:=Ef u;rw [List.length_append] at N;omega
   have xA:=I bU;have Uf:=I hM;have hsz:=hM.size;by_cases hlt:u<128
   ·have HE:=I (LH hE hlt)
    clear hE bU hM;go_wp2_with (at_builtin;refine Ui rfl _ _ rfl rfl xA.o hsz rfl rfl [UInt8.ofNat u] ?e0 rfl ?e1 ?_)
    case e0=>exact congrArg (fun x=>[Value.int .u8 x]) (LD hlt (by go_num))
    case e1=>simp;omega
    intro v' w' ho hm;have pI:=I ho;have yI:=I (hm.all Uf.o (fun k hk=>(xA.o.lt k hk).1));clear ho hm;go_wp2;go_ret;exact⟨_,rfl,by rw [<-HE.o];exact pI.o,yI.o⟩
   ·have he2:=LG hE hlt
    obtain⟨z,hz⟩:=χ (UInt8.ofNat (u % 128+128));rw [<-hz] at he2;have HE:=I he2;have HB:=I (Uk hz);clear hE bU hM he2 hz;have O:=hu.wrap;go_wp2_with (at_builtin;refine Ui rfl _ _ rfl rfl xA.o hsz rfl rfl [z] ?e0 rfl ?e1 ?_)
    case e0=>exact congrArg (fun x=>[Value.int .u8 x]) HB.o
    case e1=>simp;omega
    intro v' w' ho hm;have pI:=I ho;have yI:=I (hm.all Uf.o (fun k hk=>(xA.o.lt k hk).1));clear ho hm;go_wp2;go_roundw
    case rel=>exact⟨u/128,pre++ [z],by go_num,hu.div,HE.o,pI.o,yI.o⟩
    case measure=>simp [intOf];omega
theorem Yz {s x:Nat} {c:UInt8} (hs:s<65521) (Z:c.toNat=x) (pV:x<256) {y:Int} (hy:y=Int.tmod ((s:Int)*263+x+1) 65521):y=(CO s c:Int):=by
 subst Z;unfold CO;rw [hy,Int.tmod_eq_emod_of_nonneg V];omega
theorem lE {s x:Nat} {c:UInt8} (hs:s<65521) (Z:c.toNat=x) (pV:x<256) {y:Int} (hy:y=Int.tmod (263*(s:Int)+x+1) 65521):y=(CO s c:Int):=
 Yz hs Z pV (by rw [hy,Int.mul_comm])
theorem Ul {v:Value} {b:List UInt8} (w:World) (hv:Ya w.cell? v b):
  Calls Tryz.prog 123 #[v] w fun e w'=>e=.returned (J (xX b:Nat))/\aK w w':=by
 obtain⟨a,cap,rfl,N,Y,-,hel⟩:=hv;unfold maxLen at Y;go_enter Tryz.func123,Tryz.ntmps123;go_wp2;go_loopw [3,8] (fun s i wr=>∃k:Nat,k<=b.length/\i=J k/\s=J (uV 5 (b.take k):Nat)/\aK w wr) (fun _ i _=>b.length - (intOf i).toNat)
 case atStart=>exact⟨0,V,rfl,rfl,je⟩
 case round=>
  obtain⟨k,hk',rfl,rfl,hb⟩:=hrel;by_cases hlt:k<b.length
  ·obtain⟨bb,o,rfl,c0⟩:=byteAt hel k hlt
   replace c0:=hb.sub _ _ c0;have HS:=I (Uj 5 b k hlt);have hs:=zJ (b.take k) (s:=5) ε;have Z:=b[k].toNat_lt;clear hel;obtain⟨x,hxe⟩:=χ (b[k].toNat);rw [<-hxe] at c0 Z;have HX:=I hxe;clear hxe;obtain⟨s,hse⟩:=χ (uV 5 (b.take k));rw [<-hse] at hs;rw [<-hse];have HE:=I hse;clear hse;go_wp2_with (go_quiet (fail))
   go_roundw
   case rel=>exact⟨k+1,V,by go_num,by
    rw [HS.o,<-HE.o];exact congrArg (Value.int .i64) (Yz hs HX.o.symm Z (by go_num)),je⟩
   case measure=>simp [intOf];omega
  ·have e:b.take k=b:=eG V
   rw [e];clear hel;go_wp2;go_ret;exact⟨rfl,hb⟩
theorem YA {v:Value} {b:List UInt8} (w:World) (hv:Ya w.cell? v b):
  Calls Tryz.prog 93 #[v] w fun e w'=>e=.returned (J (xX b:Nat))/\aK w w':=by
 obtain⟨a,cap,rfl,N,Y,-,hel⟩:=hv;unfold maxLen at Y;go_enter Tryz.func93,Tryz.ntmps93;go_wp2;go_loopw [3,7] (fun s i wr=>∃k:Nat,k<=b.length/\i=J k/\s=J (uV 5 (b.take k):Nat)/\aK w wr) (fun _ i _=>b.length - (intOf i).toNat)
 case atStart=>exact⟨0,V,rfl,rfl,je⟩
 case round=>
  obtain⟨k,hk',rfl,rfl,hb⟩:=hrel;by_cases hlt:k<b.length
  ·obtain⟨bb,o,rfl,c0⟩:=byteAt hel k hlt
   replace c0:=hb.sub _ _ c0;have HS:=I (Uj 5 b k hlt);have hs:=zJ (b.take k) (s:=5) ε;have Z:=b[k].toNat_lt;clear hel;obtain⟨x,hxe⟩:=χ (b[k].toNat);rw [<-hxe] at c0 Z;have HX:=I hxe;clear hxe;obtain⟨s,hse⟩:=χ (uV 5 (b.take k));rw [<-hse] at hs;rw [<-hse];have HE:=I hse;clear hse;go_wp2_with (go_quiet (fail))
   go_roundw
   case rel=>exact⟨k+1,V,by go_num,by
    rw [HS.o,<-HE.o];exact congrArg (Value.int .i64) (lE hs HX.o.symm Z (by first|rfl|go_num)),je⟩
   case measure=>simp [intOf];omega
  ·have e:b.take k=b:=eG V
   rw [e];clear hel;go_wp2;go_ret;exact⟨rfl,hb⟩
theorem ZY {v:Value} {l:List Int} {n:Int} (w:World) (hv:Ints w.cell? v l):
  Calls Tryz.prog 130 #[v,J n] w fun e w'=>e=.returned (J (idxOf (fun x=>n==x) l))/\aK w w':=by
 obtain⟨a,cap,rfl,N,Y,-,hel⟩:=hv;unfold maxLen at Y;go_enter Tryz.func130,Tryz.ntmps130;go_wp2;go_loopw [4,5,8] (fun _ _ i wr=>∃k:Nat,k<=l.length/\i=J k/\aK w wr/\(l.take k).findIdx? (fun x=>n==x)=none) (fun _ _ i _=>l.length - (intOf i).toNat)
 case atStart=>exact⟨0,V,rfl,je,σ⟩
 case round=>
  obtain⟨k,hk',rfl,hb,hE⟩:=hrel;by_cases hlt:k<l.length
  ·obtain⟨b,o,rfl,c0,-⟩:=xu hel k hlt
   replace c0:=hb.sub _ _ c0;obtain⟨s1,s2⟩:=ES hlt hE;have S1:=I s1;have S2:=I s2;clear hel hE s1 s2;generalize l[k]=x at*;cases ht:(n==x)
   ·have S3:=I (S2.o ht)
    clear S1 S2;go_wp2;go_roundw
    case rel=>exact⟨k+1,V,by go_num,je,S3.o⟩
    case measure=>simp [intOf];omega
   ·have S3:=I (S1.o ht)
    clear S1 S2;go_wp2;go_ret;exact⟨dQ S3.o.symm,je⟩
  ·have HE:=I hE
   clear hel hE;go_wp2;go_ret;refine⟨dQ ?_,hb⟩;have h9:=HE.o;rw [eG V] at h9;unfold idxOf;rw [h9]
theorem iV {v:Value} {l:List Int} {n:Int} (w:World) (hv:Ints w.cell? v l):
  Calls Tryz.prog 104 #[v,J n] w fun e w'=>e=.returned (.bool (decide (n∈l)))/\aK w w':=by
 have HI:=I (ZY (n:=n) w hv);have HN:Hid (decide (0<=idxOf (fun x=>n==x) l)=decide (n∈l)):=by
  show _=_;rw [zk,Bool.eq_iff_iff,List.any_eq_true,decide_eq_true_eq];constructor
  ·rintro⟨x,Z,h⟩
   have:n=x:=by simpa using h
   rw [this];exact Z
  ·intro h;exact⟨n,h,σ⟩
 clear hv;generalize idxOf (fun x=>n==x) l=i at*;go_enter Tryz.func104,Tryz.ntmps104;go_wp2_with (go_at_call 130;refine HI.o.mono ?_;rintro e w' ⟨rfl,hb'⟩)
 go_ret;exact⟨dA HN.o,hb'⟩
theorem WV {v vp:Value} {h:Hs} {d:Int} {ps:List Pt} (w:World) (hv:Of Ty.hs w.cell? v h) (hp:pX w.cell? vp ps) (hk:jg ps):
  Calls Tryz.prog 115 #[v,J d,vp] w fun e w'=>e=.returned (J (iy h d ps))/\aK w w':=by
 have HO:=I hv;obtain⟨al,cl,ar,cr,ad,cd,rfl⟩:=hv.ig;have kk:=Of.oC hv;have yF:=I (fun(W:World) (hW:aK w W)=>iV (n:=d) W (kk.2.2.mono hW.sub));have HIS:=I (fun(W:World) (hW:aK w W) hb hc=>T_ (B:=w.heap.size) (d:=d) W hb hc (kk.2.1.mono hW.sub));have CK:=I (fun(W:World) (hW:aK w W)=>WB W (HO.o.mono hW.sub) (hp.mono hW.sub));have HFT:=I (fun(W:World) (hW:aK w W)=>Zo (s0:=h.aP.a) (s1:=h.aP.b) (s2:=h.aP.c) (s3:=h.aP.d) W (hp.mono hW.sub) hk);have jw:=I (bn w (.cells #[U al h.bg.length cl,J h.aP.a,J h.aP.b,J h.aP.c,J h.aP.d,U ar h.ready.length cr,U ad h.done.length cd] 50));have kH:=I ((aG w).alloc (.cells #[U al h.bg.length cl,J h.aP.a,J h.aP.b,J h.aP.c,J h.aP.d,U ar h.ready.length cr,U ad h.done.length cd] 50));clear hv hp hk kk;by_cases hd:d∈h.done
 ·have HE:Hid (iy h d ps=10):=by show iy h d ps=10;unfold iy;rw [bC hd]
  have HD:=I (decide_eq_true hd);clear hd;go_enter Tryz.func115,Tryz.ntmps115;go_wp2_with fail
  refine(yF.o _ kH.o).mono ?_;rw [HD.o];rintro e w1 ⟨rfl,dZ⟩;go_wp2;go_ret;exact⟨dQ HE.o.symm,kH.o.trans dZ⟩
 have HD:=I (decide_eq_false hd);by_cases hr:dP h.ready d=true
 ·have HE:Hid (iy h d ps=0):=by show iy h d ps=0;unfold iy;rw [aV hd,bC hr]
  have HR:=I hr;clear hd hr;go_enter Tryz.func115,Tryz.ntmps115;go_wp2_with fail
  refine(yF.o _ kH.o).mono ?_;rw [HD.o];rintro e w1 ⟨rfl,dZ⟩;have oW:=I dZ;clear dZ;have R1:=I (aF jw.o oW.o);go_wp2_with fail
  refine(HIS.o w1 (kH.o.trans oW.o) (γ R1.o) (bZ R1.o).2.2.2.2.2.1).mono ?_;rw [HR.o];rintro e w2 ⟨rfl,gB⟩;go_wp2;go_ret;exact⟨dQ HE.o.symm,(kH.o.trans oW.o).trans gB⟩
 have HR:Hid (dP h.ready d=false):=by show _=_;simpa using hr
 cases hf:xB h.ready ps with
 |false=>
  have HE:Hid (iy h d ps=12):=by show iy h d ps=12;unfold iy;rw [aV hd,aV hr,bC hf]
  clear hd hr;go_enter Tryz.func115,Tryz.ntmps115;go_wp2_with fail
  refine(yF.o _ kH.o).mono ?_;rw [HD.o];rintro e w1 ⟨rfl,dZ⟩;have oW:=I dZ;clear dZ;have R1:=I (aF jw.o oW.o);go_wp2_with fail
  refine(HIS.o w1 (kH.o.trans oW.o) (γ R1.o) (bZ R1.o).2.2.2.2.2.1).mono ?_;rw [HR.o];rintro e w2 ⟨rfl,gB⟩;have jq:=I ((kH.o.trans oW.o).trans gB);obtain⟨s0,s1,s2,s3,s4,s5,s6⟩:=bZ (aF R1.o gB);clear gB;go_wp2_with fail
  refine(CK.o w2 jq.o).mono ?_;rw [hf];rintro e w3 ⟨rfl,fB⟩;go_wp2;go_ret;exact⟨dQ HE.o.symm,jq.o.trans fB⟩
 |true=>
  have HE:Hid (iy h d ps=jH h.aP.get ps):=by show iy h d ps=_;unfold iy;rw [aV hd,aV hr,aV (by rw [hf];simp)]
  clear hd hr;go_enter Tryz.func115,Tryz.ntmps115;go_wp2_with fail
  refine(yF.o _ kH.o).mono ?_;rw [HD.o];rintro e w1 ⟨rfl,dZ⟩;have oW:=I dZ;clear dZ;have R1:=I (aF jw.o oW.o);go_wp2_with fail
  refine(HIS.o w1 (kH.o.trans oW.o) (γ R1.o) (bZ R1.o).2.2.2.2.2.1).mono ?_;rw [HR.o];rintro e w2 ⟨rfl,gB⟩;have jq:=I ((kH.o.trans oW.o).trans gB);have R2:=I (aF R1.o gB);obtain⟨s0,s1,s2,s3,s4,s5,s6⟩:=bZ R2.o;clear gB;go_wp2_with fail
  refine(CK.o w2 jq.o).mono ?_;rw [hf];rintro e w3 ⟨rfl,fB⟩;have lU:=I (jq.o.trans fB);clear s0 s1 s2 s3 s4 s5 s6;obtain⟨s0,s1,s2,s3,s4,s5,s6⟩:=bZ (aF R2.o fB);clear fB;go_wp2_with fail
  refine(HFT.o w3 lU.o).mono ?_;rintro e w4 ⟨rfl,qW⟩;go_wp2;go_ret;exact⟨dQ (by rw [HE.o];rfl),lU.o.trans qW⟩
theorem CP (l:List Int):l.flatMap eX=l.map (Value.int .i64):=by
 induction l with
 |nil=>rfl
 |cons x l ih=>rw [List.flatMap_cons,ih];rfl
theorem Um {w:World} {base:Nat} {v:Value} {l:List Int} (h:w.ownsRow base 3 1 v l.length (l.flatMap eX)) (hne:l≠ []) (hs:l.length<4611686018427387904):
  ∃g,v.ownBlock=some g/\base<=g/\Calls Tryz.prog 105 #[v] w fun e w'=>e=.returned (.tuple #[])/\w'.ownsRow base 3 1 v (l.mergeSort fun x y=>decide (x<=y)).length ((l.mergeSort fun x y=>decide (x<=y)).flatMap eX)/\w.grownBy w' (some g):=by
 obtain⟨hl,⟨rfl,hn⟩|⟨g,cap,cur,rfl,hg,hrow,hnc,hcm,hcs,htake⟩⟩:=h
 ·exact absurd (List.eq_nil_of_length_eq_zero hn) hne
 ·have ht:cur.toList.take l.length=l.map (Value.int .i64):=by rw [<-CP,<-htake,Nat.mul_one]
  refine⟨g,rfl,hg,(Tryz.slices_Sort_int g 0 cap l w (holds_of_blockI hrow ht) (γ hrow) hs).mono fun e w' ⟨he,n,os,hw⟩=>⟨he,?_,?_⟩⟩
  ·have e:(l.mergeSort fun x y=>decide (x<=y)).length=l.length:=List.length_mergeSort _
   rw [hw,CP,e];exact ownsRow_sortedI e hg hrow hnc hcm hcs
  ·rw [hw]
   exact grownBy_sortedI _
theorem LJ:∀(l:List Pt) (had:List Int) (p:Pt),jO had (l++ [p])=if p.h∈jO had l then jO had l else jO had l++ [p.h]
 | [],had,p=>rfl
 |q::l,had,p=>by rw [List.cons_append,jO,jO,LJ l]
theorem lL {l:List Pt} (h:∀p∈l,I64 p.h):∀x∈jO [] l,I64 x:=fun x Z=>by
 rcases CJ.1 Z with h0|⟨p,hp,rfl⟩
 ·simp at h0
 ·exact h p hp
theorem lO {l:List Pt} (h:l≠ []):jO [] l≠ []:=by
 intro e;cases l with
 |nil=>exact h rfl
 |cons p l=>
  have:p.h∈jO [] (p::l):=CJ.2 (.inr ⟨p,List.mem_cons_self,rfl⟩);rw [e] at this;simp at this
theorem lG {v:Value} {l:List Pt} (w:World) (hv:pX w.cell? v l) (hm:l.length*24<=140737488355328) (hne:l≠ []) (hp:∀p∈l,0<=p.h/\p.h<3):
  Calls Tryz.prog 103 #[v] w fun e w'=>∃v',e=.returned v'/\w'.ownsRow w.heap.size 3 1 v' (dB l).length ((dB l).flatMap eX)/\aK w w':=by
 have hok:=pX.ok hv;have uM:=I (fun k=>lL (l:=l.take k) fun p hp=>(hok p (List.mem_of_mem_take hp)).1);have rE:=I (lO hne);have SJ:=I (TL hp);have HM:=I hm;obtain⟨a,cap,rfl,N,Y,-,hel⟩:=hv;unfold maxLen at Y;clear hok hp hne hm;go_enter Tryz.func103,Tryz.ntmps103;go_wp2;go_loopw [3,8] (fun v i wr=>∃k:Nat,k<=l.length/\i=J k/\aK w wr/\wr.ownsRow w.heap.size 3 1 v (jO [] (l.take k)).length ((jO [] (l.take k)).flatMap eX)) (fun _ i _=>l.length - (intOf i).toNat)
 case atStart=>exact⟨0,V,rfl,aG _,World.ownsRow_nil _ _ _ _⟩
 case round=>
  obtain⟨k,hk',rfl,hb,bU⟩:=hrel;obtain⟨a1,c1,rfl⟩:=dG bU;by_cases hlt:k<l.length
  ·obtain⟨b,o,rfl,c0,d1,d2,-,-,-⟩:=pX.at_ hel k hlt
   replace c0:=hb.sub _ _ c0;replace d1:=hb.sub _ _ d1;replace d2:=hb.sub _ _ d2;have hD:jO [] (l.take (k+1))=if l[k].h∈jO [] (l.take k) then jO [] (l.take k) else jO [] (l.take k)++ [l[k].h]:=by
    rw [List.take_succ_eq_append_getElem hlt,LJ]
   have HD:=I hD;have hle:(jO [] (l.take k)).length<=k:=by have:=Ht (l.take k) [];simp at this;omega
   have yF:=I (fun(W:World) (hW:aK wr W)=>iV (n:=l[k].h) W ((Ints.yZ bU (uM.o k)).mono hW.sub));have HOW:=I bU;have HB:=I hb;clear hel bU hD hb;generalize jO [] (l.take k)=acc at*;generalize l[k]=p at*;obtain⟨ph,pk,pn⟩:=p;simp only at c0 d1 d2;go_wp2_with fail
   refine(yF.o _ ((aG wr).alloc _)).mono ?_;by_cases hin:ph∈acc
   ·rw [decide_eq_true hin]
    rintro e w3 ⟨rfl,fB⟩;have lU:=I ((HB.o.alloc _).trans fB);have n_:=I (kE HOW.o (((aG wr).alloc _).trans fB));have HI:=I hin;clear fB hin;go_wp2;go_roundw
    case rel=>exact⟨k+1,V,by go_num,lU.o,by rw [HD.o,bC HI.o];exact n_.o⟩
    case measure=>simp [intOf];omega
   ·rw [decide_eq_false hin]
    rintro e w3 ⟨rfl,fB⟩;have R3:=I (aF (bn wr (.cells #[J ph,J pk,J pn] 111)) fB);have lU:=I ((HB.o.alloc (.cells #[J ph,J pk,J pn] 111)).trans fB);have n_:=I (kE HOW.o (((aG wr).alloc _).trans fB));have HI:=I hin;clear fB hin;obtain⟨q0,q1,q2⟩:=iI R3.o;have zq:wr.heap.size<w3:=(γ R3.o);go_wp2_with (at_builtin;refine app1 jL rfl _ _ rfl lU.o rfl n_.o rfl σ rfl (by simp [Value.oneCell']) (τ HM.o) ε ?_;intro v' w' hown' hb' _)
    go_roundw
    case rel=>exact⟨k+1,V,by go_num,hb',by rw [HD.o,aV HI.o];simpa [eX] using hown'⟩
    case measure=>simp [intOf];omega
  ·have KF:k=l.length:=by omega
   rw [eG V] at bU;have hln:(jO [] l).length<=l.length:=by have:=Ht l [];simp at this;omega
   obtain⟨g,SM,Wu,hc⟩:=Um bU rE.o (τ HM.o);rw [SJ.o] at hc;have HC:=I hc;have HB:=I hb;clear hel hc bU hb;go_wp2_with fail
   refine HC.o.mono ?_;rintro e w3 ⟨rfl,LT,o9⟩;have n_:=I LT;have uF:Hid (aK w w3):=I (HB.o.grown o9 fun k hk=>by obtain rfl:=bI hk;exact Wu);clear LT o9;go_wp2;go_ret;exact⟨_,rfl,n_.o,uF.o⟩
end Go.Proofs.YtocnmkefmgmkbaaGreat
namespace Go.Proofs.YtocnmkefmgmkbaaGreat
def gy (p:Pt):List UInt8:=jC p.k++jC p.n
def iF (m:Ms):List UInt8:=UInt8.ofNat m.aX.toNat::(jC m.aJ++(jC m.aU++(jC m.aH.length++m.aH.flatMap gy)))
def tu (b:List UInt8):List UInt8:=b++ [UInt8.ofNat (xX b/256),UInt8.ofNat (xX b)]
def dh (m:Ms):List UInt8:=tu (iF m)
def ms0:Ms:=⟨0,0,0,[]⟩
def mG:Nat->List UInt8->Sum (List Int×List UInt8) Int
 |0,b=>.inl ([],b)
 |n+1,b=>if(gU b).2.2=0 then(match mG n (b.drop (gU b).2.1.toNat) with
   | .inl (xs,r)=>.inl ((gU b).1::xs,r)
   | .inr e=>.inr e) else .inr (gU b).2.2
def pairs (h:Int):List Int->List Pt
 |k::n::l=>⟨h,k,n⟩::pairs h l
 |_=>[]
def nums (l:List Pt):List Int:=l.flatMap fun p=>[p.k,p.n]
def readBody (aX:Int) (l:List UInt8):Ms×Int:=
 match mG 3 l with
 | .inr e=>(ms0,e)
 | .inl (xs,r)=>
  if xs.getD 2 0<0∨4<xs.getD 2 0 then(ms0,5) else
  match mG (2*(xs.getD 2 0).toNat) r with
  | .inr e=>(ms0,e)
  | .inl (ys,r')=>if r'≠ [] then(ms0,2) else
   if cZ ⟨aX,xs.getD 0 0,xs.getD 1 0,pairs (xs.getD 1 0) ys⟩=0 then(⟨aX,xs.getD 0 0,xs.getD 1 0,pairs (xs.getD 1 0) ys⟩,0)
   else(ms0,cZ ⟨aX,xs.getD 0 0,xs.getD 1 0,pairs (xs.getD 1 0) ys⟩)
def Ak (b:List UInt8):Bool:=decide (xX (b.take (b.length - 2))=256*(b.getD (b.length - 2) 0).toNat+(b.getD (b.length - 1) 0).toNat)
def readB (b:List UInt8):Ms×Int:=
 if b.length<3 then(ms0,8) else if Ak b=true then readBody ((b.getD 0 0).toNat:Nat) ((b.take (b.length - 2)).drop 1) else(ms0,7)
theorem H_:∀(xs:List Int) (r:List UInt8),(∀x∈xs,zig x<128^6)->mG xs.length (xs.flatMap jC++r)=.inl (xs,r)
 | [],r,_=>rfl
 |x::xs,r,h=>by
  have N:=C2 (n:=x) (xs.flatMap jC++r) (h x List.mem_cons_self);rw [List.flatMap_cons,List.append_assoc,List.length_cons,mG,N];simp only [if_true,Int.toNat_natCast,List.drop_left];rw [H_ xs r fun y hy=>h y (List.mem_cons_of_mem _ hy)]
theorem LK:∀l:List Pt,l.flatMap gy=(nums l).flatMap jC
 | []=>rfl
 |p::l=>by
  show gy p++l.flatMap gy=([p.k,p.n]++nums l).flatMap jC;rw [LK l,List.flatMap_append];simp [gy]
theorem Un:∀l:List Pt,(nums l).length=2*l.length
 | []=>rfl
 |p::l=>by
  show([p.k,p.n]++nums l).length=_;rw [List.length_append,Un l];simp;omega
theorem LM {h:Int}:∀{l:List Pt},(∀p∈l,p.h=h)->pairs h (nums l)=l
 | [],_=>rfl
 |p::l,hp=>by
  show(⟨h,p.k,p.n⟩:Pt)::pairs h (nums l)=_;rw [LM fun q O=>hp q (List.mem_cons_of_mem _ O),<-hp p List.mem_cons_self]
theorem Eh {h:Int}:∀(n:Nat) {ys:List Int},ys.length=2*n->nums (pairs h ys)=ys/\(pairs h ys).length=n
 |0,ys,hl=>by
  obtain rfl:ys=[]:=List.eq_nil_of_length_eq_zero V;exact⟨rfl,rfl⟩
 |n+1,ys,hl=>by
  match ys,hl with
  | [],hl=>simp at hl
  | [x],hl=>simp at hl;omega
  |k::x::ys,hl=>
   obtain⟨e1,e2⟩:=Eh (h:=h) n (ys:=ys) (by simp at hl;omega);refine⟨?_,?_⟩
   ·show [k,x]++nums (pairs h ys)=_
    rw [e1];rfl
   ·show(pairs h ys).length+1=_
    rw [e2]
theorem lP {n:Int} (N:-2199023255552<n) (Y:n<2199023255552):zig n<128^6:=by
 have:(128:Nat)^6=4398046511104:=by decide
 rw [this];unfold zig;split<;>omega
theorem mD.len {m:Ms} (h:mD m):m.aH.length<=4:=by
 by_cases hk:m.aX=1
 ·exact(g_ (h.aH hk).1).2.1
 ·rw [h.none hk];simp
theorem mD.pts {m:Ms} (h:mD m):∀p∈m.aH,p.h=m.aU/\0<=p.k/\p.k<4/\p.n<=1048576/\-1048576<=p.n:=by
 by_cases hk:m.aX=1
 ·intro p hp
  have:=(g_ (h.aH hk).1).2.2.1 p hp;exact⟨(h.aH hk).2 p hp,this.2.2⟩
 ·rw [h.none hk];simp
theorem Z9 (m:Ms):iF m=UInt8.ofNat m.aX.toNat::([m.aJ,m.aU,(m.aH.length:Int)].flatMap jC++(nums m.aH).flatMap jC):=by
 unfold iF;rw [LK];simp
theorem Z_ {m:Ms} (h:mD m) (hw:cZ m=0):readBody m.aX ([m.aJ,m.aU,(m.aH.length:Int)].flatMap jC++(nums m.aH).flatMap jC)=(m,0):=by
 have hl:=h.len;have N:=H_ [m.aJ,m.aU,(m.aH.length:Int)] ((nums m.aH).flatMap jC) (by
  intro x Z;have N:=h.aJ;have Y:=h.aU;simp only [List.mem_cons,List.not_mem_nil,or_false] at Z;rcases Z with rfl|rfl|rfl<;>exact lP V V)
 have Y:=H_ (nums m.aH) [] (by
  intro x Z;obtain⟨p,hp,Z⟩:=List.mem_flatMap.1 Z;have:=h.pts p hp;simp only [List.mem_cons,List.not_mem_nil,or_false] at Z;rcases Z with rfl|rfl<;>exact lP V V)
 rw [Un,List.append_nil] at Y;unfold readBody;rw [show(3:Nat)=[m.aJ,m.aU,(m.aH.length:Int)].length from rfl,N];simp only [List.getD_cons_succ,List.getD_cons_zero];rw [aV V,Int.toNat_natCast,Y];simp only [ne_eq,not_true,if_false];rw [LM fun p hp=>(h.pts p hp).1];show(if cZ m=0 then(m,(0:Int)) else _)=_;rw [bC hw]
theorem LP (b:List UInt8):(tu b).length=b.length+2:=by simp [tu]
theorem C7 (b:List UInt8):Ak (tu b)=true/\(tu b).take ((tu b).length - 2)=b:=by
 have hl:=LP b;have ht:(tu b).take ((tu b).length - 2)=b:=by rw [hl];simp [tu]
 refine⟨?_,ht⟩;have hs:=Fq b;have e1:(tu b).getD ((tu b).length - 2) 0=UInt8.ofNat (xX b/256):=by rw [hl];simp [tu]
 have e2:(tu b).getD ((tu b).length - 1) 0=UInt8.ofNat (xX b):=by
  rw [hl,show b.length+2 - 1=b.length+1 by omega];simp [tu,List.getD_eq_getElem?_getD]
 unfold Ak;rw [ht,e1,e2,decide_eq_true_eq,qx V,UInt8.toNat_ofNat'];omega
theorem Ei {m:Ms} (hw:cZ m=0):readB (dh m)=(m,0):=by
 have h:=CG.1 hw;obtain⟨N,Y⟩:=C7 (iF m);unfold readB dh;have hp:0<(iF m).length:=by unfold iF;simp
 rw [aV (by rw [LP];omega),bC N,Y,Z9];rw [List.drop_succ_cons,List.drop_zero];have e:((tu (UInt8.ofNat m.aX.toNat::([m.aJ,m.aU,(m.aH.length:Int)].flatMap jC++(nums m.aH).flatMap jC))).getD 0 0)=UInt8.ofNat m.aX.toNat:=by
  unfold tu;rw [List.cons_append];rfl
 have hk:=h.aX;rw [e,qx V,show((m.aX.toNat:Nat):Int)=m.aX by omega];exact Z_ h hw
end Go.Proofs.YtocnmkefmgmkbaaGreat
namespace Go.Proofs.YtocnmkefmgmkbaaGreat
open Go.RowKit
theorem OwnB.grow {w w':World} {base:Nat} {v:Value} {b:List UInt8} (h:OwnB w base v b) (hg:aK w w'):OwnB w' base v b:=kE h hg
theorem OwnB.bts {w:World} {base:Nat} {v:Value} {b:List UInt8} (h:OwnB w base v b):Ya w.cell? v b:=Ya.yZ h
theorem mF.row {w w':World} {v v':Value} {B:Nat} {o:Obj} (h:mF w w' v v') (hr:w.heap[B]? =some o) (hne:∀k,v.ownBlock=some k->B≠k):w'.heap[B]? =some o:=
 bJ hr h.1 (fun e=>hne B e.symm rfl)
theorem Pj:∀{xs:List Int},(∀x∈xs,I64 x)->(xs.flatMap jC).length<=10*xs.length
 | [],_=>by simp
 |x::xs,h=>by
  obtain⟨h0,N⟩:=fJ (h x List.mem_cons_self);have Y:=lF h0 N;have h3:=Pj (xs:=xs) fun y hy=>h y (List.mem_cons_of_mem _ hy);rw [List.flatMap_cons,List.length_append,List.length_cons];omega
theorem Ia {α:Type} (f:α->List UInt8) {l:List α} {k:Nat} (h:k<l.length):(l.take (k+1)).flatMap f=(l.take k).flatMap f++f l[k]:=by
 rw [List.take_succ_eq_append_getElem h,List.flatMap_append];simp
theorem ku {n:Int} (N:-9223372036854775808<=n) (Y:n<=9223372036854775807):I64 n:=by
 unfold I64;simp [Lit.wf,IntKind.min,IntKind.max,IntKind.signed,IntKind.bits];omega
theorem Pm {k:Int} (h:0<=k/\k<256):k=((UInt8.ofNat k.toNat).toNat:Int):=by
 rw [UInt8.toNat_ofNat'];omega
theorem Oz {p:Pt} (N:I64 p.k) (Y:I64 p.n):(gy p).length<=20:=by
 unfold gy;rw [List.length_append];have a:=lF (fJ N).1 (fJ N).2;have b:=lF (fJ Y).1 (fJ Y).2;omega
theorem qX:∀{l:List Pt},AY l->(l.flatMap gy).length<=20*l.length
 | [],_=>by simp
 |p::l,h=>by
  have Y:=Oz (h p List.mem_cons_self).2.1 (h p List.mem_cons_self).2.2;have h3:=qX (l:=l) fun q O=>h q (List.mem_cons_of_mem _ O);rw [List.flatMap_cons,List.length_append,List.length_cons];omega
theorem two_bytes {x y:Int} {z1 z2:UInt8} (N:x=(z1.toNat:Int)) (Y:y=(z2.toNat:Int)):[Value.int .u8 x,Value.int .u8 y]=[z1,z2].flatMap jf:=by
 rw [N,Y];rfl
theorem WW {v:Value} {m:Ms} (w:World) (hv:Of Ty.ms w.cell? v m) (hk:0<=m.aX/\m.aX<256) (hl:m.aH.length<=4):
  Calls Tryz.prog 89 #[v] w fun e w'=>∃v',e=.returned v'/\OwnB w' w.heap.size v' (dh m)/\aK w w':=by
 obtain⟨ap,cp,rfl⟩:=hv.ny;obtain⟨hp,ik,id',ih⟩:=hv.yE;have hok:=pX.ok hp;have HKB:=I (Pm hk);have HI:Hid (∀x∈ [m.aJ,m.aU,(m.aH.length:Int)],I64 x):=fun x Z=>by
  simp only [List.mem_cons,List.not_mem_nil,or_false] at Z;rcases Z with rfl|rfl|rfl
  ·exact id'
  ·exact ih
  ·exact ku V V
 have HNL:=I (fun k=>Pj (xs:=[m.aJ,m.aU,(m.aH.length:Int)].take k) fun x Z=>HI.o x (List.mem_of_mem_take Z));have pU:=I (fun k=>qX (l:=m.aH.take k) fun p hp=>hok p (List.mem_of_mem_take hp));have HB0:Hid (OwnB (((w.alloc (.cells #[J m.aX,J m.aJ,J m.aU,U ap m.aH.length cp] 85)).alloc (.cells #[.int .u8 m.aX] 5)).alloc (.cells #[J m.aJ,J m.aU,J m.aH.length] 3)) w.heap.size (U (some ⟨w+1,0,none⟩) 1 1) [UInt8.ofNat m.aX.toNat]):=I (by
  have h:=World.ownsRow_lit (base:=w.heap.size) (e:=5) (size:=1) (w.alloc (.cells #[J m.aX,J m.aJ,J m.aU,U ap m.aH.length cp] 85)) #[.int .u8 m.aX] 1 σ ε rfl;have e:(#[.int .u8 m.aX]:Array Value).toList=[UInt8.ofNat m.aX.toNat].flatMap jf:=by
   show [Value.int .u8 m.aX]=[Value.int .u8 _];rw [<-HKB.o]
  rw [e] at h;have Y:=OwnB.grow (b:=[UInt8.ofNat m.aX.toNat]) h (w':=(((w.alloc (.cells #[J m.aX,J m.aJ,J m.aU,U ap m.aH.length cp] 85)).alloc (.cells #[.int .u8 m.aX] 5)).alloc (.cells #[J m.aJ,J m.aU,J m.aH.length] 3))) ((aG _).alloc _);simpa using Y)
 have NV:Hid ((((w.alloc (.cells #[J m.aX,J m.aJ,J m.aU,U ap m.aH.length cp] 85)).alloc (.cells #[.int .u8 m.aX] 5)).alloc (.cells #[J m.aJ,J m.aU,J m.aH.length] 3)).heap[w.heap.size]? =some (.cells #[J m.aX,J m.aJ,J m.aU,U ap m.aH.length cp] 85 (0,0))):=I (bQ (bQ (bn _ _) _) _);have zu:Hid ((((w.alloc (.cells #[J m.aX,J m.aJ,J m.aU,U ap m.aH.length cp] 85)).alloc (.cells #[.int .u8 m.aX] 5)).alloc (.cells #[J m.aJ,J m.aU,J m.aH.length] 3)).heap[w.heap.size+1+1]? =some (.cells #[J m.aJ,J m.aU,J m.aH.length] 3 (0,0))):=I (by simpa using bn ((w.alloc (.cells #[J m.aX,J m.aJ,J m.aU,U ap m.aH.length cp] 85)).alloc (.cells #[.int .u8 m.aX] 5)) (.cells #[J m.aJ,J m.aU,J m.aH.length] 3));have uF:Hid (aK w (((w.alloc (.cells #[J m.aX,J m.aJ,J m.aU,U ap m.aH.length cp] 85)).alloc (.cells #[.int .u8 m.aX] 5)).alloc (.cells #[J m.aJ,J m.aU,J m.aH.length] 3))):=I ((((aG w).alloc _).alloc _).alloc _);have J3:Hid (w.heap.size+3<=((((w.alloc (.cells #[J m.aX,J m.aJ,J m.aU,U ap m.aH.length cp] 85)).alloc (.cells #[.int .u8 m.aX] 5)).alloc (.cells #[J m.aJ,J m.aU,J m.aH.length] 3))).heap.size):=I σ;have nH:=I hp;have HM:Hid (UInt8.ofNat m.aX.toNat::(([m.aJ,m.aU,(m.aH.length:Int)].flatMap jC)++m.aH.flatMap gy)=iF m):=I (by unfold iF;simp);obtain⟨Gj,SG⟩:=hk;clear hv ik id' ih hok;go_enter Tryz.func89,Tryz.ntmps89;go_wp2;obtain⟨w3,Pn⟩:∃x:World,x=(((w.alloc (.cells #[J m.aX,J m.aJ,J m.aU,U ap m.aH.length cp] 85)).alloc (.cells #[.int .u8 m.aX] 5)).alloc (.cells #[J m.aJ,J m.aU,J m.aH.length] 3)):=⟨_,rfl⟩;rw [<-Pn] at HB0 NV zu uF J3 ⊢;clear Pn;go_loopw [3,22] (fun bv i wr=>∃k:Nat,k<=3/\i=J k/\OwnB wr w.heap.size bv (UInt8.ofNat m.aX.toNat::([m.aJ,m.aU,(m.aH.length:Int)].take k).flatMap jC)/\mF w3 wr (U (some ⟨w+1,0,none⟩) 1 1) bv) (fun _ i _=>3 - (intOf i).toNat)
 case atStart=>exact⟨0,V,rfl,HB0.o,mF.refl _ _⟩
 case round=>
  obtain⟨k,hk',rfl,bU,hM⟩:=hrel;obtain⟨a1,k1,rfl⟩:=dG bU;have HO:=I bU;have HMR:=I hM;by_cases hlt:k<3
  ·obtain⟨x,Z⟩:∃x,[m.aJ,m.aU,(m.aH.length:Int)][k]? =some x:=⟨_,dM hlt⟩
   have HX:=I (HI.o x (List.mem_of_getElem? Z));have HN:=I (show UInt8.ofNat m.aX.toNat::([m.aJ,m.aU,(m.aH.length:Int)].take (k+1)).flatMap jC=(UInt8.ofNat m.aX.toNat::([m.aJ,m.aU,(m.aH.length:Int)].take k).flatMap jC)++jC x by
    rw [Ia jC hlt,List.cons_append];congr 2;rw [dM hlt] at Z;exact congrArg jC (bI Z))
   have r2:=hM.row zu.o (fun q O=>by
    obtain rfl:w.heap.size+1=q:=by simpa [Value.ownBlock] using O
    omega)
   have hc:wr.cell? ⟨w+1+1,k,none⟩=some (J x):=by
    simp only [World.cell?,r2];match k,hlt,Z with
    |0,_,Z=>simp at Z ⊢;exact Z
    |1,_,Z=>simp at Z ⊢;exact Z
    |2,_,Z=>simp at Z ⊢;exact Z
   have hnl:=HNL.o k;have hlk:([m.aJ,m.aU,(m.aH.length:Int)].take k).length<=3:=by rw [List.length_take];simp;omega
   have hlb:(UInt8.ofNat m.aX.toNat::([m.aJ,m.aU,(m.aH.length:Int)].take k).flatMap jC).length+10<=140737488355328:=by rw [List.length_cons];omega
   have Yg:=I hlb;clear bU hM Z r2 hnl hlk hlb;generalize UInt8.ofNat m.aX.toNat::([m.aJ,m.aU,(m.aH.length:Int)].take k).flatMap jC=pre at*;go_wp2_with fail
   refine(Bg (base:=w.heap.size) wr HO.o (by have:=HMR.o.1.size;have:=J3.o;omega) HX.o Yg.o).mono ?_;rintro e w5 ⟨v5,rfl,mW,hm5⟩;have oQ:=I mW;have HM5:=I (HMR.o.trans hm5);clear mW hm5;go_wp2;go_roundw
   case rel=>exact⟨k+1,V,by go_num,by rw [HN.o];exact oQ.o,HM5.o⟩
   case measure=>simp [intOf];omega
  ·obtain rfl:k=3:=by omega
   rw [show((3:Nat):Int)=3 from rfl];have hb:aK w wr:=hM.all uF.o (fun q O=>by
    obtain rfl:w.heap.size+1=q:=by simpa [Value.ownBlock] using O
    omega)
   have r0:=hM.row NV.o (fun q O=>by
    obtain rfl:w.heap.size+1=q:=by simpa [Value.ownBlock] using O
    omega)
   obtain⟨wo,rfl⟩:=χ wr;obtain⟨c0,c1,c2,c3⟩:=aT r0;have z0:w.heap.size<wo:=(γ r0);have vw:=I hb;have hnl:=HNL.o 3;have Fv:Hid ((UInt8.ofNat m.aX.toNat::([m.aJ,m.aU,(m.aH.length:Int)].take 3).flatMap jC).length<=31):=I (by rw [List.length_cons];have:([m.aJ,m.aU,(m.aH.length:Int)].take 3).length=3:=rfl;omega);have yI:Hid ((UInt8.ofNat m.aX.toNat::([m.aJ,m.aU,(m.aH.length:Int)].take 3).flatMap jC)++m.aH.flatMap gy=iF m):=I (by rw [<-HM.o];rfl);obtain⟨Oo,cp',he,N,Y,-,hel⟩:=nH.o;obtain⟨rfl,rfl⟩:ap=Oo/\cp=cp':=by simpa using he
   unfold maxLen at Y;clear bU hM r0 hb hnl HMR he HM;generalize UInt8.ofNat m.aX.toNat::([m.aJ,m.aU,(m.aH.length:Int)].take 3).flatMap jC=b0 at*;go_wp2;go_loopw [3,33] (fun bv i wr=>∃k:Nat,k<=m.aH.length/\i=J k/\aK w wr/\OwnB wr w.heap.size bv (b0++(m.aH.take k).flatMap gy)) (fun _ i _=>m.aH.length - (intOf i).toNat)
   case atStart=>exact⟨0,V,rfl,vw.o,by simpa using HO.o⟩
   case round=>
    obtain⟨k,hk',rfl,hb,bU⟩:=hrel;obtain⟨a2,k2,rfl⟩:=dG bU;by_cases hlt:k<m.aH.length
    ·obtain⟨b,o,rfl,d0,d1,d2,-,i1,i2⟩:=pX.at_ hel k hlt
     replace d0:=hb.sub _ _ d0;replace d1:=hb.sub _ _ d1;replace d2:=hb.sub _ _ d2;have HN:=I (show b0++(m.aH.take (k+1)).flatMap gy=(b0++(m.aH.take k).flatMap gy++jC m.aH[k].k)++jC m.aH[k].n by
      rw [Ia gy hlt];simp [gy])
     have hlk:(m.aH.take k).length<=4:=by rw [List.length_take];omega
     have hln:(b0++(m.aH.take k).flatMap gy).length<=131:=by
      have:=pU.o k;have:=Fv.o;rw [List.length_append];omega
     have Am:=I hln;have HI1:=I i1;have HI2:=I i2;have HOW:=I bU;have HB:=I hb;clear hel i1 i2 hlk hln bU hb c0 c1 c2 c3;generalize b0++(m.aH.take k).flatMap gy=pre at*;generalize m.aH[k]=p at*;obtain⟨ph,pk,pn⟩:=p;simp only at d0 d1 d2 HI1 HI2 HN;have RP:=I (bn wr (.cells #[J ph,J pk,J pn] 111));have aD:=I (HOW.o.grow ((aG wr).alloc (.cells #[J ph,J pk,J pn] 111)));have HGA:Hid (aK w (wr.alloc (.cells #[J ph,J pk,J pn] 111))):=I (HB.o.alloc _);have C8:Hid (∀q,(Value.slice a2 pre.length k2).ownBlock=some q->q<wr.heap.size):=I (fun q O=>(HOW.o.lt q O).2);go_wp2;obtain⟨wa,fZ⟩:=χ (wr.alloc (.cells #[J ph,J pk,J pn] 111));rw [<-fZ] at RP aD HGA ⊢;have SO:Hid (wa.heap.size=wr.heap.size+1):=I (by rw [fZ];simp);clear fZ;refine dH (fun w'=>w'.cell? ⟨wr,1,none⟩=some (J pk)/\w'.cell? ⟨wr,2,none⟩=some (J pn)) 7 κ ?_;obtain⟨wd,hWd⟩:=χ wa.drew;rw [<-hWd];have GD:aK wa wd:=by rw [hWd];exact(aG _).drew
     have zD:wa.heap.size=wd.heap.size:=by rw [hWd];rfl
     clear hWd zD;refine qJ [0,1,2,4,5] 10 κ (fun _ _ _ _ _ h=>h) (⟨(iI (aF RP.o GD)).2.1,(iI (aF RP.o GD)).2.2⟩) ?_;repeat (refine jY ?_;try simp only [bT])
     refine qK ?_;refine bO 3 κ rfl ?_;intro K M;try simp only [dD]
     go_simp;go_at_call 126
     refine(Bg (base:=w.heap.size) wd (aD.o.grow GD) (τ ((HGA.o.trans GD).size)) HI1.o (τ Am.o)).mono ?_;rintro e w4 ⟨v4,rfl,vO,aL⟩;obtain⟨a4,k4,rfl⟩:=dG vO;have R4:=I (aL.row (aF RP.o GD) (fun q O=>by have:=C8.o q O;omega));have G4:=I (aL.all (HGA.o.trans GD) (fun q O=>(aD.o.lt q O).1));have NW:=I vO;have HW4:Hid (∀q,(Value.slice a4 (pre++jC pk).length k4).ownBlock=some q->q≠wr.heap.size):=I (fun q O=>by
      have hz:=SO.o;have hz2:=GD.size;rcases aL.2 with e|⟨g,e,hg⟩
      ·rw [e] at O;have:=C8.o q O;omega
      ·rw [e] at O;obtain rfl:=bI O;omega)
     have L0:Hid ((pre++jC pk).length+10<=140737488355328):=I (by have:=lF (fJ HI1.o).1 (fJ HI1.o).2;have:=Am.o;rw [List.length_append];omega);clear vO aL;generalize pre++jC pk=DA at*;refine ψ M (fun _=>⟨(iI R4.o).2.1,(iI R4.o).2.2⟩) ?_;try simp only [bT]
     refine bO 6 κ rfl ?_;intro K M;try simp only [dD]
     go_simp;go_at_call 126
     refine(Bg (base:=w.heap.size) w4 NW.o (τ G4.o.size) HI2.o L0.o).mono ?_;rintro e w6 ⟨v6,rfl,tZ,hm6⟩;obtain⟨a6,k6,rfl⟩:=dG tZ;have R6:=I (hm6.row R4.o (fun q O e=>HW4.o q O e.symm));have G6:=I (hm6.all G4.o (fun q O=>(NW.o.lt q O).1));have Gm:=I tZ;clear tZ hm6;generalize DA++jC pn=pre6 at*;refine ψ M (fun _=>⟨(iI R6.o).2.1,(iI R6.o).2.2⟩) ?_;try simp only [bT]
     refine bO 7 κ rfl ?_;intro K M;try simp only [dD]
     go_simp;refine ψ M (fun h=>absurd rfl h) ?_;try simp only [bT]
     refine bW κ ?_;go_wp2;go_roundw
     case rel=>exact⟨k+1,V,by go_num,G6.o,by rw [HN.o];exact Gm.o⟩
     case measure=>simp [intOf];omega
    ·rw [eG V,yI.o] at bU ⊢
     have HOW:=I bU;have HB:=I hb;have HLH:Hid ((iF m).length<=111):=I (by
      rw [<-yI.o,List.length_append];have:=pU.o m.aH.length;rw [eG (Nat.le_refl _)] at this;have:=Fv.o;omega)
     obtain⟨z1,hz1⟩:=χ (UInt8.ofNat (xX (iF m)/256));obtain⟨z2,hz2⟩:=χ (UInt8.ofNat (xX (iF m)));have eW:Hid ((xX (iF m):Int)/256 % 256=(z1.toNat:Int)):=I (by rw [hz1,r_];omega);have Gl:Hid ((xX (iF m):Int) % 256=(z2.toNat:Int)):=I (by rw [hz2,r_];omega);have HBM:Hid (iF m++ [z1,z2]=dh m):=I (by rw [hz1,hz2];rfl);have hs1:=Fq (iF m);have SR:=I (fun(W:World) (hW:aK wr W)=>Ul W ((HOW.o.grow hW).bts));clear hel bU hb hz1 hz2;generalize xX (iF m)=s at*;generalize iF m=hd at*;go_wp2_with fail
     refine(SR.o _ (aG _)).mono ?_;rintro e w7 ⟨rfl,jQ⟩;have zN:=I (HOW.o.grow jQ);have Ai:=I (HB.o.trans jQ);have ST:w.heap.size<=w7.heap.size:=Ai.o.size;clear jQ;go_wp2_with (at_builtin;refine Ui rfl _ _ rfl rfl zN.o ST rfl rfl [z1,z2] ?e0 rfl ?e1 ?_)
     case e0=>exact two_bytes (by first|exact eW.o|(rw [<-eW.o];omega)) (by first|exact Gl.o|(rw [<-Gl.o];omega))
     case e1=>have:=HLH.o;simp;omega
     intro v9 w9 gX Uo;have jE:=I gX;have Aj:=I (Uo.all Ai.o (fun q O=>(zN.o.lt q O).1));clear gX Uo;go_wp2;go_ret;exact⟨_,rfl,by rw [<-HBM.o];exact jE.o,Aj.o⟩
theorem Ur {b:List UInt8} {k u:Nat} {X:Int×Int×Int} (h:qw k u (b.drop k)=X) (hk:k<b.length):(if 6<=k then((0:Int),(0:Int),(3:Int)) else if 128<=b[k].toNat then qw (k+1) (u+b[k].toNat % 128*128^k) (b.drop (k+1))
  else if 0<k/\b[k].toNat=0 then(0,0,2) else(zag (u+b[k].toNat % 128*128^k),(k:Int)+1,0))=X:=by
 rw [List.drop_eq_getElem_cons hk,qw] at h;exact h
theorem YB {b:List UInt8} {k u:Nat} {X:Int×Int×Int} (h:qw k u (b.drop k)=X) (hk:¬k<b.length):((0:Int),(0:Int),(8:Int))=X:=by
 rw [List.drop_of_length_le V,qw] at h;exact h
theorem Ap {x y z:Int} {X:Int×Int×Int} (h:(x,y,z)=X):Ending.returned (.tuple #[J x,J y,J z])=.returned (.tuple #[J X.1,J X.2.1,J X.2.2]):=by rw [<-h]
theorem SU {u x k:Nat} (hk:k<6) (hu:u<128^k) (_:x<256):bits .or .u64 (u:Int) (IntKind.u64.wrap ((x:Int) % 128*2^(7*k)))=((u+x % 128*128^k:Nat):Int):=by
 rw [<-WU (v:=x % 128) hu (Nat.mod_lt _ ε) hk];congr 1;have h6:(128:Nat)^k<=128^5:=Nat.pow_le_pow_right ε V;have h5:(128:Nat)^5=34359738368:=by decide
 have hm:x % 128*128^k<=127*128^k:=Nat.mul_le_mul_right _ V;have e:(x:Int) % 128*2^(7*k)=((x % 128*128^k:Nat):Int):=by
  rw [<-SF];simp
 rw [e,IntKind.wrap_u64];omega
theorem Us {u x k:Nat} (hk:k<6) (hu:u<128^k):u+x % 128*128^k<128^(k+1)/\u+x % 128*128^k<4398046511104:=by
 have hm:x % 128*128^k<=127*128^k:=Nat.mul_le_mul_right _ V;have h6:(128:Nat)^(k+1)<=128^6:=Nat.pow_le_pow_right ε V;have h5:(128:Nat)^6=4398046511104:=by decide
 have h7:(128:Nat)^(k+1)=128*128^k:=by rw [Nat.pow_succ,Nat.mul_comm]
 omega
theorem DB {q:Nat} (h:q<4398046511104):bits .and .u64 (q:Int) 1=(q:Int) % 2:=by
 rw [ZX V];omega
theorem DG {q:Nat} (h:q<4398046511104):bits .xor .i64 ((q:Int)/2) (-((q:Int) % 2))=zag q:=by
 rw [<-kO V];rfl
theorem lR {v:Value} {b:List UInt8} (w:World) (hv:Ya w.cell? v b):
  Calls Tryz.prog 139 #[v] w fun e w'=>e=.returned (.tuple #[J (gU b).1,J (gU b).2.1,J (gU b).2.2])/\aK w w':=by
 obtain⟨a,cap,rfl,N,Y,-,hel⟩:=hv;unfold maxLen at Y;go_enter Tryz.func139,Tryz.ntmps139;go_wp2;go_loopw [5,10] (fun u i wr=>∃k u':Nat,k<=b.length/\k<=6/\i=J k/\u=.int .u64 u'/\u'<128^k/\qw k u' (b.drop k)=gU b/\aK w wr) (fun _ i _=>b.length - (intOf i).toNat)
 case atStart=>exact⟨0,0,V,V,rfl,rfl,σ,rfl,je⟩
 case round=>
  obtain⟨k,u,hk',hk6,rfl,rfl,hu,hE,hb⟩:=hrel;by_cases hlt:k<b.length
  ·obtain⟨bb,o,rfl,c0⟩:=byteAt hel k hlt
   replace c0:=hb.sub _ _ c0;have CQ:=Ur hE hlt;have Z:=b[k].toNat_lt;clear hel hE;obtain⟨x,hxe⟩:=χ (b[k].toNat);rw [<-hxe] at c0 Z CQ;clear hxe;by_cases h6:6<=k
   ·rw [bC h6] at CQ
    have HE:=I CQ;clear CQ;go_wp2;refine dw (v:=.tuple #[J 0,J 0,J 3]) (by simp [results,Tryz.results139,go_sem]) rfl ?_;exact⟨Ap HE.o,hb⟩
   ·rw [aV h6] at CQ
    have hor:=SU V hu Z;obtain⟨Dw,Dx⟩:=Us (x:=x) V hu;obtain⟨q,hqe⟩:=χ (u+x % 128*128^k);rw [<-hqe] at CQ hor Dw Dx;have hand:=DB Dx;have HX:=I (DG Dx);have LQ:=I Dw;have HE:=I CQ;have A3u:=Ug Z;clear CQ hqe Dw hu;by_cases h8:128<=x
    ·go_wp2
     go_roundw
     case rel=>exact⟨k+1,q,V,V,by go_num,by go_num,LQ.o,by have h9:=HE.o;rwa [bC h8] at h9,hb⟩
     case measure=>simp [intOf];omega
    ·by_cases h9:0<k/\x=0
     ·have lC:=I (show((0:Int),(0:Int),(2:Int))=gU b by have SW:=HE.o;rwa [aV h8,bC h9] at SW)
      obtain⟨h9a,rfl⟩:=h9;go_wp2;refine dw (v:=.tuple #[J 0,J 0,J 2]) (by simp [results,Tryz.results139,go_sem]) rfl ?_;exact⟨Ap lC.o,je⟩
     ·have lC:=I (show(zag q,(k:Int)+1,(0:Int))=gU b by have SW:=HE.o;rwa [aV h8,aV h9] at SW)
      by_cases Gj:0<k
      ·have J6:¬x=0:=fun e=>h9 ⟨Gj,e⟩
       have hbx:((x:Int)==0)=false:=by simp [J6]
       clear h9 J6;go_wp2;refine dw (v:=.tuple #[J (zag q),J ((k:Int)+1),J 0]) (by simp [results,Tryz.results139,go_sem,HX.o]) rfl ?_;exact⟨Ap lC.o,je⟩
      ·clear h9
       go_wp2;refine dw (v:=.tuple #[J (zag q),J ((k:Int)+1),J 0]) (by simp [results,Tryz.results139,go_sem,HX.o]) rfl ?_;exact⟨Ap lC.o,je⟩
  ·have HE:=I (YB hE hlt)
   clear hE;go_wp2;refine dw (v:=.tuple #[J 0,J 0,J 8]) (by simp [results,Tryz.results139,go_sem]) rfl ?_;exact⟨Ap HE.o,hb⟩
theorem DM {v:Value} {b:List UInt8} (w:World) (hv:Ya w.cell? v b):
  Calls Tryz.prog 94 #[v] w fun e w'=>e=.returned (.tuple #[J (gU b).1,J (gU b).2.1,J (gU b).2.2])/\aK w w':=by
 obtain⟨a,cap,rfl,N,Y,-,hel⟩:=hv;unfold maxLen at Y;go_enter Tryz.func94,Tryz.ntmps94;go_wp2;go_loopw [5,6,7] (fun u g i wr=>∃k q p:Nat,k<=b.length/\k<=6/\i=J k/\u=J q/\g=J p/\p=128^k/\q<128^k/\qw k q (b.drop k)=gU b/\aK w wr) (fun _ _ i _=>b.length - (intOf i).toNat)
 case atStart=>exact⟨0,0,1,V,V,rfl,rfl,rfl,rfl,σ,rfl,je⟩
 case round=>
  obtain⟨k,u,p,hk',hk6,rfl,rfl,rfl,hp,hu,hE,hb⟩:=hrel;by_cases hlt:k<b.length
  ·obtain⟨bb,o,rfl,c0⟩:=byteAt hel k hlt
   replace c0:=hb.sub _ _ c0;have CQ:=Ur hE hlt;have Z:=b[k].toNat_lt;clear hel hE;obtain⟨x,hxe⟩:=χ (b[k].toNat);rw [<-hxe] at c0 Z CQ;clear hxe;have hne:((k:Int)==(b.length:Int))=false:=by rw [beq_eq_false_iff_ne];omega
   by_cases h6:6<=k
   ·rw [bC h6] at CQ
    have HE:=I CQ;have h6e:((k:Int)==6)=true:=by rw [beq_iff_eq];omega
    clear CQ hp hu;go_wp2;refine dw (v:=.tuple #[J 0,J 0,J 3]) (by simp [results,Tryz.results94,go_sem]) rfl ?_;exact⟨Ap HE.o,hb⟩
   ·rw [aV h6] at CQ
    have h6e:((k:Int)==6)=false:=by rw [beq_eq_false_iff_ne];omega
    obtain⟨Dw,Dx⟩:=Us (x:=x) V hu;have hp5:p<=34359738368:=by
     rw [hp];have h6:(128:Nat)^k<=128^5:=Nat.pow_le_pow_right ε V;have h5:(128:Nat)^5=34359738368:=by decide
     omega
    have HP:=I (show p*128=128^(k+1) by rw [hp,Nat.pow_succ]);rw [<-hp] at CQ Dx Dw hu;obtain⟨m,hm⟩:=χ (x % 128*p);rw [<-hm] at CQ Dx Dw;have hmul:((x:Int) % 128)*(p:Int)=(m:Int):=by rw [hm];simp
    obtain⟨q,hqe⟩:=χ (u+m);have hadd:(u:Int)+(m:Int)=(q:Int):=by omega
    have hqm:m<=q:=by omega
    rw [<-hqe] at CQ Dw Dx;have LQ:=I Dw;have HE:=I CQ;clear CQ hqe Dw hu hp hm;by_cases h8:128<=x
    ·go_wp2
     go_roundw
     case rel=>exact⟨k+1,q,p*128,V,V,by go_num,by go_num,by go_num,HP.o,LQ.o,by have h9:=HE.o;rwa [bC h8] at h9,je⟩
     case measure=>simp [intOf];omega
    ·by_cases h9:0<k/\x=0
     ·have lC:=I (show((0:Int),(0:Int),(2:Int))=gU b by have SW:=HE.o;rwa [aV h8,bC h9] at SW)
      obtain⟨h9a,rfl⟩:=h9;go_wp2;refine dw (v:=.tuple #[J 0,J 0,J 2]) (by simp [results,Tryz.results94,go_sem]) rfl ?_;exact⟨Ap lC.o,je⟩
     ·have lC:=I (show(zag q,(k:Int)+1,(0:Int))=gU b by have SW:=HE.o;rwa [aV h8,aV h9] at SW)
      have hcase:(0<k/\¬x=0)∨¬0<k:=by
       by_cases Gj:0<k
       ·exact .inl ⟨Gj,fun e=>h9 ⟨Gj,e⟩⟩
       ·exact .inr Gj
      clear h9;by_cases hodd:q % 2=1
      ·have HZ:Hid (zag q= -((q:Int)/2) - 1):=by show zag q=_;unfold zag;rw [bC hodd];simp
       have ho:((q:Int) % 2==1)=true:=by rw [beq_iff_eq];omega
       clear hodd;rcases hcase with⟨Gj,J6⟩|Gj
       ·have hbx:((x:Int)==0)=false:=by rw [beq_eq_false_iff_ne];omega
        clear J6;go_wp2;refine dw (v:=.tuple #[J (zag q),J ((k:Int)+1),J 0]) (by simp [results,Tryz.results94,go_sem,HZ.o]) rfl ?_;exact⟨Ap lC.o,je⟩
       ·go_wp2
        refine dw (v:=.tuple #[J (zag q),J ((k:Int)+1),J 0]) (by simp [results,Tryz.results94,go_sem,HZ.o]) rfl ?_;exact⟨Ap lC.o,je⟩
      ·have HZ:Hid (zag q=(q:Int)/2):=by show zag q=_;unfold zag;rw [aV hodd];simp
       have ho:((q:Int) % 2==1)=false:=by rw [beq_eq_false_iff_ne];omega
       clear hodd;rcases hcase with⟨Gj,J6⟩|Gj
       ·have hbx:((x:Int)==0)=false:=by rw [beq_eq_false_iff_ne];omega
        clear J6;go_wp2;refine dw (v:=.tuple #[J (zag q),J ((k:Int)+1),J 0]) (by simp [results,Tryz.results94,go_sem,HZ.o]) rfl ?_;exact⟨Ap lC.o,je⟩
       ·go_wp2
        refine dw (v:=.tuple #[J (zag q),J ((k:Int)+1),J 0]) (by simp [results,Tryz.results94,go_sem,HZ.o]) rfl ?_;exact⟨Ap lC.o,je⟩
  ·have HE:=I (YB hE hlt)
   have hne:((k:Int)==(b.length:Int))=true:=by rw [beq_iff_eq];omega
   clear hE hp hu;go_wp2;refine dw (v:=.tuple #[J 0,J 0,J 8]) (by simp [results,Tryz.results94,go_sem]) rfl ?_;exact⟨Ap HE.o,hb⟩
end Go.Proofs.YtocnmkefmgmkbaaGreat
namespace Go.Proofs.YtocnmkefmgmkbaaGreat
abbrev RS:=List UInt8×Int
def dW (s:RS):Int×RS:=if s.2≠0 then(0,s) else if(gU s.1).2.2≠0 then(0,s.1,(gU s.1).2.2) else((gU s.1).1,s.1.drop (gU s.1).2.1.toNat,0)
def h_:Nat->RS->List Int×RS
 |0,s=>([],s)
 |n+1,s=>((dW s).1::(h_ n (dW s).2).1,(h_ n (dW s).2).2)
theorem Ib:∀(n:Nat) (s:RS),(h_ n s).1.length=n
 |0,_=>rfl
 |n+1,s=>by rw [h_];simp [Ib n]
theorem Ej:∀(n:Nat) (s:RS),h_ (n+1) s=((h_ n s).1++ [(dW (h_ n s).2).1],(dW (h_ n s).2).2)
 |0,s=>rfl
 |n+1,s=>by
  rw [h_,Ej n];rfl
theorem LU {l:List UInt8} (h:(gU l).2.2=0):dW (l,0)=((gU l).1,l.drop (gU l).2.1.toNat,0):=by
 unfold dW;rw [aV σ,aV (by simpa using h)]
theorem Po {l:List UInt8} (h:(gU l).2.2≠0):dW (l,0)=(0,l,(gU l).2.2):=by
 unfold dW;rw [aV σ,bC h]
theorem Jq {l:List UInt8} {e:Int} (h:e≠0):dW (l,e)=(0,l,e):=by
 unfold dW;rw [bC h]
theorem Jr:∀(n:Nat) {l:List UInt8} {e:Int},e≠0->h_ n (l,e)=(List.replicate n 0,l,e)
 |0,_,_,_=>rfl
 |n+1,l,e,h=>by rw [h_,Jq h,Jr n h];rfl
theorem LV:∀(n:Nat) {l:List UInt8} {xs:List Int} {r:List UInt8},mG n l=.inl (xs,r)->h_ n (l,0)=(xs,r,0)
 |0,l,xs,r,h=>by
  simp only [mG,Sum.inl.injEq,Prod.mk.injEq] at h;obtain⟨rfl,rfl⟩:=h;rfl
 |n+1,l,xs,r,h=>by
  rw [mG] at h;split at h
  ·rename_i h0
   cases hn:mG n (l.drop (gU l).2.1.toNat) with
   |inr e=>rw [hn] at h;simp at h
   |inl p=>
    obtain⟨ys,r'⟩:=p;rw [hn] at h;simp only [Sum.inl.injEq,Prod.mk.injEq] at h;obtain⟨rfl,rfl⟩:=h;rw [h_,LU h0,LV n hn]
  ·simp at h
theorem Ic:∀(n:Nat) {l:List UInt8} {e:Int},mG n l=.inr e->∃xs r,h_ n (l,0)=(xs,r,e)/\e≠0/\xs.getD (n - 1) 0=0
 |0,l,e,h=>by simp [mG] at h
 |n+1,l,e,h=>by
  rw [mG] at h;split at h
  ·rename_i h0
   cases hn:mG n (l.drop (gU l).2.1.toNat) with
   |inl p=>
    obtain⟨ys,r'⟩:=p;rw [hn] at h;simp at h
   |inr e'=>
    rw [hn] at h;simp only [Sum.inr.injEq] at h;subst h;obtain⟨xs,r,N,Y,h3⟩:=Ic n hn;refine⟨(gU l).1::xs,r,by rw [h_,LU h0,N],Y,?_⟩;cases n with
    |zero=>simp [mG] at hn
    |succ n=>simpa using h3
  ·rename_i h0
   simp only [Sum.inr.injEq] at h;subst h;refine⟨List.replicate (n+1) 0,l,by rw [h_,Po h0,Jr n h0];rfl,h0,?_⟩;simp
def Bh (m:Ms) (t:RS):Ms×Int:=
 if(if t.2=0/\t.1≠ [] then 2 else t.2)=0 then(if cZ m=0 then(m,0) else(ms0,cZ m)) else(ms0,if t.2=0/\t.1≠ [] then 2 else t.2)
def YC (aX:Int) (l:List UInt8):Ms×Int:=
 if(h_ 3 (l,0)).2.2=0/\((h_ 3 (l,0)).1.getD 2 0<0∨4<(h_ 3 (l,0)).1.getD 2 0) then(ms0,5)
 else Bh ⟨aX,(h_ 3 (l,0)).1.getD 0 0,(h_ 3 (l,0)).1.getD 1 0,pairs ((h_ 3 (l,0)).1.getD 1 0) (h_ (2*((h_ 3 (l,0)).1.getD 2 0).toNat) (h_ 3 (l,0)).2).1⟩ (h_ (2*((h_ 3 (l,0)).1.getD 2 0).toNat) (h_ 3 (l,0)).2).2
theorem WX (aX:Int) (l:List UInt8):YC aX l=readBody aX l:=by
 unfold YC readBody;cases h3:mG 3 l with
 |inr e=>
  obtain⟨xs,r,N,Y,h4⟩:=Ic 3 h3;rw [N];simp only;rw [aV (fun h=>Y h.1)];have h5:xs.getD 2 0=0:=h4;rw [h5];simp only [Int.toNat_zero,Nat.mul_zero,h_];unfold Bh;rw [aV (by simp [Y])];simp [Y]
 |inl p=>
  obtain⟨xs,r⟩:=p;rw [LV 3 h3];simp only [true_and];by_cases hn:xs.getD 2 0<0∨4<xs.getD 2 0
  ·rw [bC hn,bC hn]
  ·rw [aV hn,aV hn]
   cases h4:mG (2*(xs.getD 2 0).toNat) r with
   |inr e=>
    obtain⟨ys,r',h5,h6,-⟩:=Ic _ h4;rw [h5];unfold Bh;simp [h6]
   |inl p=>
    obtain⟨ys,r'⟩:=p;rw [LV _ h4];unfold Bh;by_cases hr:r'=[]
    ·simp [hr]
    ·simp [hr]
theorem DO (b:List UInt8):readB b=if b.length<3 then(ms0,8) else if Ak b=true then YC ((b.getD 0 0).toNat:Nat) ((b.take (b.length - 2)).drop 1) else(ms0,7):=by
 unfold readB;rw [WX]
theorem Em (h:Int):∀(n:Nat) {xs:List Int} {k x:Int},xs.length=2*n->pairs h (xs++ [k,x])=pairs h xs++ [⟨h,k,x⟩]
 |0,xs,k,x,hl=>by
  obtain rfl:xs=[]:=List.eq_nil_of_length_eq_zero V;rfl
 |n+1,xs,k,x,hl=>by
  match xs,hl with
  | [],hl=>simp at hl
  | [a],hl=>simp at hl;omega
  |a::b::xs,hl=>
   simp only [List.cons_append,pairs];rw [Em h n (by simp at hl;omega)]
theorem LW (h:Int) (n:Nat) (s:RS):pairs h (h_ (2*(n+1)) s).1=pairs h (h_ (2*n) s).1++ [⟨h,(dW (h_ (2*n) s).2).1,(dW (dW (h_ (2*n) s).2).2).1⟩]/\
  (h_ (2*(n+1)) s).2=(dW (dW (h_ (2*n) s).2).2).2:=by
 rw [show 2*(n+1)=2*n+1+1 by omega,Ej,Ej];simp only [List.append_assoc,List.cons_append,List.nil_append];exact⟨Em h n (Ib _ _),trivial⟩
theorem aM {u:Nat} (h:u<4398046511104):-2199023255552<=zag u/\zag u<2199023255552:=by
 unfold zag;split<;>omega
theorem Js:∀(b:List UInt8) (i u:Nat),u<128^i->-2199023255552<=(qw i u b).1/\(qw i u b).1<2199023255552/\0<=(qw i u b).2.1/\(qw i u b).2.1<=i+b.length/\0<=(qw i u b).2.2/\(qw i u b).2.2<=8
 | [],i,u,_=>by
  rw [qw];refine⟨ε,ε,ε,?_,ε,ε⟩;show(0:Int)<=_;omega
 |c::b,i,u,hu=>by
  have Z:c.toNat % 128<=127:=by omega
  have hm:c.toNat % 128*128^i<=127*128^i:=Nat.mul_le_mul_right _ Z;have hlt:u+c.toNat % 128*128^i<128^(i+1):=by
   rw [Nat.pow_succ];omega
  rw [qw];split
  ·refine⟨ε,ε,ε,?_,ε,ε⟩
   show(0:Int)<=_;omega
  ·rename_i h6
   split
   ·have:=Js b (i+1) _ hlt
    simp only [List.length_cons];push_cast at this ⊢;omega
   ·split
    ·refine⟨ε,ε,ε,?_,ε,ε⟩
     show(0:Int)<=_;omega
    ·have h6':(128:Nat)^(i+1)<=128^6:=Nat.pow_le_pow_right ε V
     have e6:(128:Nat)^6=4398046511104:=by decide
     have:=aM (u:=u+c.toNat % 128*128^i) V;simp only [List.length_cons];push_cast;refine⟨this.1,this.2,V,V,ε,ε⟩
theorem En (b:List UInt8):-2199023255552<=(gU b).1/\(gU b).1<2199023255552/\0<=(gU b).2.1/\(gU b).2.1<=b.length/\0<=(gU b).2.2/\(gU b).2.2<=8:=by
 have:=Js b 0 0 ε;unfold gU;refine⟨this.1,this.2.1,this.2.2.1,?_,this.2.2.2.2⟩;have h:=this.2.2.2.1;simp only [Int.natCast_zero,Int.zero_add] at h;exact h
theorem Jt (s:RS):-2199023255552<=(dW s).1/\(dW s).1<2199023255552:=by
 have:=En s.1;unfold dW;split
 ·exact⟨(by show(-2199023255552:Int)<=0;decide),(by show(0:Int)<2199023255552;decide)⟩
 ·split
  ·exact⟨(by show(-2199023255552:Int)<=0;decide),(by show(0:Int)<2199023255552;decide)⟩
  ·exact⟨this.1,this.2.1⟩
end Go.Proofs.YtocnmkefmgmkbaaGreat
namespace Go.Proofs.YtocnmkefmgmkbaaGreat
open Go.RowKit
theorem Sl.drop {α:Type} {T:Ty α} {c:CM} {b o n cap:Nat} {l:List α} (h:Sl T c (U (some ⟨b,o,none⟩) n cap) l) (k:Nat) (hk:k<=n):Sl T c (U (some ⟨b,o+k*T.size,none⟩) (n - k) (cap - k)) (l.drop k):=by
 obtain⟨a',cap',he,N,Y,h3,hel⟩:=h;simp only [Value.slice.injEq] at he;obtain⟨rfl,rfl,rfl⟩:=he;refine⟨_,cap - k,by rw [List.length_drop],by rw [List.length_drop];omega,V,σ,fun i x e=>?_⟩;rw [List.getElem?_drop] at e;obtain⟨b',o',cs,ha,hR,hA⟩:=hel _ x e;simp only [Option.some.injEq,Addr.mk.injEq] at ha;obtain⟨rfl,rfl,-⟩:=ha;refine⟨b,o+k*T.size,cs,rfl,hR,?_⟩;have e2:o+(k+i)*T.size=o+k*T.size+i*T.size:=by rw [Nat.add_mul,Nat.add_assoc]
 rw [<-e2];exact hA
theorem Sl.none' {α:Type} (T:Ty α) (c:CM) (a:Addr) {l:List α} (hl:l=[]):Sl T c (U (some a) 0 0) l:=by
 subst hl;exact⟨some a,0,rfl,Nat.le_refl _,Nat.zero_le _,σ,fun i x e=>by simp at e⟩
theorem jP {w:World} {B:Nat} {a b:Value} {t:TypeId} (h:w.heap[B]? =some (.cells #[a,b] t (0,0))):w.cell? ⟨B,0,none⟩=some a/\w.cell? ⟨B,1,none⟩=some b:=by
 refine⟨?_,?_⟩<;>simp [World.cell?,h]
theorem LX {w:World} {B:Nat} {a b:Value} {t:TypeId} (h:w.heap[B]? =some (.cells #[a,b] t (0,0))) (u:Value):(w.setCell ⟨B,0,none⟩ u).heap[B]? =some (.cells #[u,b] t (0,0)):=by
 simp only [World.setCell,Array.getElem?_modify,h];simp
theorem Eo {w:World} {B:Nat} {a b:Value} {t:TypeId} (h:w.heap[B]? =some (.cells #[a,b] t (0,0))) (u:Value):(w.setCell ⟨B,1,none⟩ u).heap[B]? =some (.cells #[a,u] t (0,0)):=by
 simp only [World.setCell,Array.getElem?_modify,h];simp
def aR (w:World) (B:Nat) (c:CM) (s:RS):Prop:=∃a cap,w.heap[B]? =some (.cells #[U a s.1.length cap,J s.2] 161 (0,0))/\Sl Ty.byte c (U a s.1.length cap) s.1
theorem aR.grow {w w':World} {B:Nat} {c:CM} {s:RS} (h:aR w B c s) (hg:aK w w'):aR w' B c s:=by
 obtain⟨a,cap,N,Y⟩:=h;exact⟨a,cap,aF N hg,Y⟩
theorem qy {w:World} {B:Nat} {c:CM} {s:RS} (hr:aR w B c s) (hc:Sub c w.cell?):
  Calls Tryz.prog 124 #[.pointer (some ⟨B,0,none⟩)] w fun e w'=>e=.returned (J (dW s).1)/\aR w' B c (dW s).2/\w.grownBy w' (some B):=by
 obtain⟨l,er⟩:=s;obtain⟨a,cap,hrow,hl⟩:=hr;simp only at hrow hl;have jw:=I hrow;have HL:=I hl;obtain⟨c0,c1⟩:=jP hrow;have zB:B<w.heap.size:=(γ hrow);have f0:=gJ hrow;clear hrow;by_cases he:er=0
 ·subst he
  have HG:=I (lR w (hl.mono hc));obtain⟨-,-,zi,dZ,gB,fB⟩:=En l;by_cases Y:(gU l).2.2=0
  ·have HE:=I (LU Y)
   obtain⟨k,hk⟩:∃k:Nat,(gU l).2.1=k:=⟨(gU l).2.1.toNat,V⟩;have hne:l≠ []:=fun e=>by rw [e] at Y;revert Y;decide
   rw [hk] at HG HE;rw [Y] at HG;have hkl:k<=l.length:=by omega
   simp only [Int.toNat_natCast] at HE;clear zi dZ gB fB Y hk;obtain⟨a',cap',hf,g1,g2,g3,hel⟩:=id hl;simp only [Value.slice.injEq,true_and] at hf;obtain⟨rfl,rfl⟩:=hf;unfold maxLen at g2;have hlp:0<l.length:=List.length_pos_iff.2 hne;obtain⟨bb,o,cs,rfl,-,-⟩:=hel 0 l[0] σ;clear hel hne g3;by_cases hcap:cap=k
   ·have HD:Hid (Sl Ty.byte c (U (some ⟨bb,o,none⟩) 0 0) (l.drop k)):=I (Sl.none' _ _ _ (List.drop_eq_nil_of_le V))
    have Ou:Hid ((l.drop k).length=0):=I (by rw [List.length_drop];omega);obtain rfl:=hcap;clear hl;generalize (gU l).1=x at*;go_enter Tryz.func124,Tryz.ntmps124;go_wp2_with fail
    refine HG.o.mono ?_;rintro e w1 ⟨rfl,dZ⟩;have R1:=I (aF jw.o dZ);have oW:=I dZ;obtain⟨d0,d1⟩:=jP R1.o;have zB1:B<w1.heap.size:=(γ R1.o);have f1:=gJ R1.o;clear dZ c0 c1 f0;go_wp2;go_ret;refine⟨dQ (by rw [HE.o]),?_,bD (aO oW.o (some B)) (dS w1 ⟨B,0,none⟩ _)⟩;rw [HE.o];have h9:=LX R1.o (U (some ⟨bb,o,none⟩) 0 0);refine⟨some ⟨bb,o,none⟩,0,?_,?_⟩
    ·rw [show(l.drop cap,(0:Int)).1.length=0 from Ou.o]
     exact h9
    ·rw [show(l.drop cap,(0:Int)).1.length=0 from Ou.o];exact HD.o
   ·have HD:=I (hl.drop k hkl)
    have Ou:Hid ((l.drop k).length=l.length - k):=I (List.length_drop);clear hl;generalize (gU l).1=x at*;go_enter Tryz.func124,Tryz.ntmps124;go_wp2_with fail
    refine HG.o.mono ?_;rintro e w1 ⟨rfl,dZ⟩;have R1:=I (aF jw.o dZ);have oW:=I dZ;obtain⟨d0,d1⟩:=jP R1.o;have zB1:B<w1.heap.size:=(γ R1.o);have f1:=gJ R1.o;clear dZ c0 c1 f0;go_wp2;go_ret;refine⟨dQ (by rw [HE.o]),?_,bD (aO oW.o (some B)) (dS w1 ⟨B,0,none⟩ _)⟩;rw [HE.o];have h9:=LX R1.o (U (some ⟨bb,o+k,none⟩) (l.length - k) (cap - k));refine⟨some ⟨bb,o+k,none⟩,cap - k,?_,?_⟩
    ·rw [show(l.drop k,(0:Int)).1.length=l.length - k from Ou.o]
     exact h9
    ·rw [show(l.drop k,(0:Int)).1.length=l.length - k from Ou.o];simpa [Ty.byte] using HD.o
  ·have HE:=I (Po Y)
   clear zi dZ;have qW:((gU l).2.2 !=0)=true:=by simp [Y]
   clear Y hl;generalize (gU l).1=x at*;generalize (gU l).2.1=y at*;generalize (gU l).2.2=z at*;go_enter Tryz.func124,Tryz.ntmps124;go_wp2_with fail
   refine HG.o.mono ?_;rintro e w1 ⟨rfl,dZ⟩;have R1:=I (aF jw.o dZ);have oW:=I dZ;obtain⟨d0,d1⟩:=jP R1.o;have zB1:B<w1.heap.size:=(γ R1.o);have f1:=gJ R1.o;clear dZ c0 c1 f0;go_wp2;go_ret;refine⟨dQ (by rw [HE.o]),?_,bD (aO oW.o (some B)) (dS w1 ⟨B,1,none⟩ _)⟩;rw [HE.o];exact⟨a,cap,Eo R1.o _,HL.o⟩
 ·have HE:=I (Jq (l:=l) he)
  have qW:(er !=0)=true:=by simp [he]
  clear he hl;go_enter Tryz.func124,Tryz.ntmps124;go_wp2;go_ret;refine⟨dQ (by rw [HE.o]),?_,aO (aG _) _⟩;rw [HE.o];exact⟨a,cap,jw.o,HL.o⟩
theorem yB.pts {w:World} {base e:Nat} {v:Value} {l:List Pt} (c:CM) (h:yB Ty.pt w base e v l):bK Ty.pt c w base e v l:=by
 obtain⟨css,N,Y,h3⟩:=h;exact⟨css,N,Y,fun i cs x a b=>h3 i cs x a b⟩
theorem SZ {B:Nat} {n:Int} (wx:World) (cs:List Value) (x:Pt) (hB:B<wx.heap.size) (hc:wx.cell? ⟨B,0,none⟩=some (J n)) (hR:Ty.pt.R wx.cell? cs x):
  Calls Tryz.prog 152 #[.agg cs.toArray,.pointer (some ⟨B,0,none⟩)] wx fun e w'=>e=.returned (.bool (x.h !=n))/\aK wx w':=by
 obtain⟨rfl,-⟩:=hR;obtain⟨ph,pk,pn⟩:=x;unfold Pt.cells;simp only;go_enter Tryz.func152,Tryz.ntmps152;go_wp2;go_ret;exact⟨rfl,je⟩
theorem YD {v:Value} {l:List Pt} {n:Int} (w:World) (hv:pX w.cell? v l) (hm:l.length*24<=140737488355328):
  Calls Tryz.prog 134 #[v,J n] w fun e w'=>∃v',e=.returned v'/\bK Ty.pt (fun _=>none) w' w.heap.size 111 v' (jT l n)/\aK w w':=by
 have uM:=I (pX.ok hv);have Je:=I (sZ (w.alloc (.cells #[J n] 3)) (hv.mono ((aG w).alloc _).sub) hm);have Hw:Hid ((w.alloc (.cells #[J n] 3)).cell? ⟨w,0,none⟩=some (J n)):=I (by rw [World.cell?_alloc_new];rfl);clear hv;go_enter Tryz.func134,Tryz.ntmps134;go_wp2_with fail
 refine Je.o.mono ?_;rintro e w1 ⟨v1,rfl,bU,dZ⟩;have hT:yB Ty.pt w1 (w.alloc (.cells #[J n] 3)).heap.size 111 v1 l:=yB.of_flat (T:=Ty.pt) (f:=Pt.cells) bU fun c x Z=>⟨rfl,uM.o x Z⟩;have hT0:bK Ty.pt (fun _=>none) w1 (w.alloc (.cells #[J n] 3)).heap.size 111 v1 l:=hT.pts _;have hlt:=hT0.lt;have hc1:w1.cell? ⟨w,0,none⟩=some (J n):=dZ.sub _ _ Hw.o;have hz1:w.heap.size<w1:=by have:=dZ.size;simp at this;omega
 have hne:∀k,v1.ownBlock=some k->w.heap.size≠k:=fun k hk=>by have:=(hlt k hk).1;simp at this;omega
 have HD:=I (Ox hT (F:=152) (caps:=#[.pointer (some ⟨w,0,none⟩)]) (p:=fun x=>x.h !=n) ⟨fun args w=>κ,fun wx cs x hg _ hR=>by
  refine SZ wx cs x (Nat.lt_of_lt_of_le hz1 hg.size) ?_ hR;rw [World.cell?_of_block (hg.block w.heap.size hz1 (fun e=>hne _ e.symm rfl))];exact hc1⟩)
 obtain⟨a1,c1,rfl⟩:=hT0.form;have oW:=I (((aG w).alloc (.cells #[J n] 3)).trans dZ);have yj:=I hlt;clear hT hT0 bU dZ hlt hc1 hz1 hne;go_wp2_with fail
 refine HD.o.mono ?_;rintro e w2 ⟨v2,rfl,hT2,Wu,-⟩;have HX:Hid (bK Ty.pt (fun _=>none) w2 w.heap.size 111 v2 (jT l n)):=I (by
  have h:=(hT2.pts (fun _=>none)).base (b':=w.heap.size) σ;have e:(l.filter fun x=>!(x.h !=n))=jT l n:=by unfold jT;congr 1;funext x;show(!(!(x.h==n)))=_;simp
  rw [<-e];exact h)
 have HG:Hid (aK w w2):=I (oW.o.grown Wu fun k hk=>by have:=(yj.o k hk).1;simp at this;omega);clear hT2 Wu;go_wp2;go_ret;exact⟨_,rfl,HX.o,HG.o⟩
theorem S0 {l:List Pt} {n:Int}:(jT l n).length=l.length↔l.all (fun p=>p.h==n)=true:=by
 unfold jT;rw [List.length_filter_eq_length_iff,List.all_eq_true]
theorem WY {v:Value} {m:Ms} (w:World) (hv:Of Ty.ms w.cell? v m):
  Calls Tryz.prog 125 #[v] w fun e w'=>e=.returned (J (cZ m))/\aK w w':=by
 obtain⟨ap,cp,rfl⟩:=hv.ny;obtain⟨hp,-⟩:=hv.yE;have HW:=I (fun(W:World) (hW:aK w W)=>Ea (h:=3) W (hp.mono hW.sub));have HO:=I (fun(hm:m.aH.length*24<=140737488355328) (W:World) (hW:aK w W)=>YD (n:=m.aU) W (hp.mono hW.sub) hm);clear hv hp;by_cases N:m.aX<1
 ·have HE:Hid (cZ m=1):=by show cZ m=1;unfold cZ;rw [bC (.inl N)]
  go_enter Tryz.func125,Tryz.ntmps125;go_wp2;go_ret;exact⟨dQ HE.o.symm,je⟩
 by_cases Y:7<m.aX
 ·have HE:Hid (cZ m=1):=by show cZ m=1;unfold cZ;rw [bC (.inr Y)]
  go_enter Tryz.func125,Tryz.ntmps125;go_wp2;go_ret;exact⟨dQ HE.o.symm,je⟩
 by_cases h3:m.aJ<0
 ·have HE:Hid (cZ m=3):=by show cZ m=3;unfold cZ;rw [aV V,bC (.inl h3)]
  go_enter Tryz.func125,Tryz.ntmps125;go_wp2;go_ret;exact⟨dQ HE.o.symm,je⟩
 by_cases h4:1343<m.aJ
 ·have HE:Hid (cZ m=3):=by show cZ m=3;unfold cZ;rw [aV V,bC V]
  go_enter Tryz.func125,Tryz.ntmps125;go_wp2;go_ret;exact⟨dQ HE.o.symm,je⟩
 by_cases h5:m.aU<0
 ·have HE:Hid (cZ m=3):=by show cZ m=3;unfold cZ;rw [aV V,bC V]
  go_enter Tryz.func125,Tryz.ntmps125;go_wp2;go_ret;exact⟨dQ HE.o.symm,je⟩
 by_cases h6:2<m.aU
 ·have HE:Hid (cZ m=3):=by show cZ m=3;unfold cZ;rw [aV V,bC V]
  go_enter Tryz.func125,Tryz.ntmps125;go_wp2;go_ret;exact⟨dQ HE.o.symm,je⟩
 by_cases h7:1<m.aX
 ·have dZ:(m.aX !=1)=true:=by rw [bne_iff_ne];omega
  by_cases h8:m.aH=[]
  ·have HE:Hid (cZ m=0):=by show cZ m=0;unfold cZ;rw [aV V,aV V,bC h7,bC h8]
   have hl:m.aH.length=0:=by rw [h8];rfl
   clear h8;generalize m.aH.length=n at*;subst hl;go_enter Tryz.func125,Tryz.ntmps125;go_wp2;go_ret;exact⟨dQ HE.o.symm,je⟩
  ·have HE:Hid (cZ m=5):=by show cZ m=5;unfold cZ;rw [aV V,aV V,bC h7,aV h8]
   have hl:0<m.aH.length:=List.length_pos_iff.2 h8;clear h8;go_enter Tryz.func125,Tryz.ntmps125;go_wp2;go_ret;exact⟨dQ HE.o.symm,je⟩
 have dZ:(m.aX !=1)=false:=by simp;omega
 have HB:Hid (cZ m=if dO m.aH 3=0 then(if m.aH.all (fun p=>p.h==m.aU)=true then 0 else 3) else dO m.aH 3):=by
  show cZ m=_;unfold cZ;rw [aV V,aV V,aV h7]
 by_cases h8:dO m.aH 3=0
 ·have hb:(dO m.aH 3 !=0)=false:=by simp [h8]
  have hlen:m.aH.length<=4:=(g_ h8).2.1;have pI:=I (HO.o V);have HE:Hid (cZ m=(if m.aH.all (fun p=>p.h==m.aU)=true then 0 else 3)):=by show cZ m=_;rw [HB.o,bC h8]
  have HC:=I (S0 (l:=m.aH) (n:=m.aU));clear h8 HB hlen;generalize dO m.aH 3=we at*;go_enter Tryz.func125,Tryz.ntmps125;go_wp2_with fail
  refine(HW.o _ ((aG _).alloc _)).mono ?_;rintro e w1 ⟨rfl,dR⟩;have R3:=I (aF (bn w (.cells #[J m.aX,J m.aJ,J m.aU,U ap m.aH.length cp] 85)) dR);have oW:=I (((aG w).alloc (.cells #[J m.aX,J m.aJ,J m.aU,U ap m.aH.length cp] 85)).trans dR);have z3:w.heap.size<w1:=(γ R3.o);clear dR;have HS:Hid (∀W,aK w1 W->W.cell? ⟨w,2,none⟩=some (J m.aU)/\W.cell? ⟨w,3,none⟩=some (U ap m.aH.length cp)):=fun W hW=>by
   obtain⟨c0,c1,c2,c3⟩:=aT (aF R3.o hW);exact⟨c2,c3⟩
  have n_:=I (fun(W:World) (hW:aK w1 W)=>pI.o W (oW.o.trans hW));by_cases he:(jT m.aH m.aU).length=m.aH.length
  ·have lC:Hid (cZ m=0):=by show cZ m=0;rw [HE.o,bC (HC.o.1 he)]
   have fB:(((jT m.aH m.aU).length:Int) !=(m.aH.length:Int))=false:=by simp [he]
   clear he HC HE;go_wp2;go_region_held3 (fun w'=>w'.cell? ⟨w,2,none⟩=some (J m.aU)/\w'.cell? ⟨w,3,none⟩=some (U ap m.aH.length cp)) (first|assumption|exact HS.o _ Aw) (first|(go_at_call 134;refine(n_.o _ Aw).mono ?_;rintro e w4 ⟨v4,rfl,vO,qW⟩;obtain⟨a4,k4,rfl⟩:=vO.form;clear vO))
   go_wp2;go_ret;exact⟨dQ lC.o.symm,oW.o.trans Aw⟩
  ·have lC:Hid (cZ m=3):=by show cZ m=3;rw [HE.o,aV (fun h=>he (HC.o.2 h))]
   have fB:(((jT m.aH m.aU).length:Int) !=(m.aH.length:Int))=true:=by rw [bne_iff_ne];omega
   clear he HC HE;go_wp2;go_region_held3 (fun w'=>w'.cell? ⟨w,2,none⟩=some (J m.aU)/\w'.cell? ⟨w,3,none⟩=some (U ap m.aH.length cp)) (first|assumption|exact HS.o _ Aw) (first|(go_at_call 134;refine(n_.o _ Aw).mono ?_;rintro e w4 ⟨v4,rfl,vO,qW⟩;obtain⟨a4,k4,rfl⟩:=vO.form;clear vO))
   go_wp2;go_ret;exact⟨dQ lC.o.symm,oW.o.trans Aw⟩
 ·have hb:(dO m.aH 3 !=0)=true:=by simp [h8]
  have HE:Hid (cZ m=dO m.aH 3):=by show cZ m=_;rw [HB.o,aV h8]
  clear h8 HB;generalize dO m.aH 3=we at*;go_enter Tryz.func125,Tryz.ntmps125;go_wp2_with fail
  refine(HW.o _ ((aG _).alloc _)).mono ?_;rintro e w1 ⟨rfl,dR⟩;have oW:=I (((aG w).alloc (.cells #[J m.aX,J m.aJ,J m.aU,U ap m.aH.length cp] 85)).trans dR);clear dR;go_wp2;go_ret;exact⟨dQ HE.o.symm,oW.o⟩
theorem jo:(Tryz.prog.info? 85).map (·.size)=some 4:=by kernel_rfl
theorem oI (c:CM):Of Ty.ms c (.agg #[J 0,J 0,J 0,()]) ms0:=⟨_,rfl,_,rfl,gZ,gZ,gZ,Sl.nil _ _⟩
theorem Ut {w:World} {B:Nat} {a b c d:Value} {t:TypeId} (h:w.heap[B]? =some (.cells #[a,b,c,d] t (0,0))) (u:Value):(w.setCell ⟨B,3,none⟩ u).heap[B]? =some (.cells #[a,b,c,u] t (0,0)):=by
 simp only [World.setCell,Array.getElem?_modify,h];simp
structure l6 (w wc:World) (B6 B7:Nat) (t:RS) (k d h:Int) (vp:Value) (ps:List Pt):Prop where
 res:wc.heap[w.heap.size]? =some (.cells #[J 0,J 0,J 0,()] 85 (0,0))
 msg:wc.heap[B7]? =some (.cells #[J k,J d,J h,vp] 85 (0,0))
 DQ:aR wc B6 w.cell? t
 own:wc.ownsRow (w.heap.size+1) 111 3 vp ps.length (ps.flatMap Pt.cells)
 grow:aK w wc
 a_:w.heap.size<B6
 lo7:w.heap.size<B7
 ne:B6≠B7
 QK:∀q,vp.ownBlock=some q->q≠B6/\q≠B7
theorem l6.next {w wc w':World} {B6 B7:Nat} {t t':RS} {k d h:Int} {vp:Value} {ps:List Pt} (r:l6 w wc B6 B7 t k d h vp ps) (hr:aR w' B6 w.cell? t') (hg:wc.grownBy w' (some B6)):l6 w w' B6 B7 t' k d h vp ps where
 res:=bJ r.res hg (by have:=r.a_;simp;omega)
 msg:=bJ r.msg hg (by have:=r.ne;simp;omega)
 DQ:=hr
 own:=r.own.kept hg (by
  cases e:vp.ownBlock with
  |none=>exact .inl rfl
  |some q=>exact .inr (by have:=(r.QK q e).1;simp;omega))
 grow:=r.grow.grown hg (fun q O=>by have:=r.a_;simp at O;omega)
 a_:=r.a_
 lo7:=r.lo7
 ne:=r.ne
 QK:=r.QK
theorem l6.part {w wc w1 w':World} {B6 B7:Nat} {t:RS} {k d h:Int} {vp:Value} {ps ps':List Pt} {a':Option Addr} {n c':Nat} (r:l6 w wc B6 B7 t k d h vp ps) (hG:aK wc w1) (ho:w'.ownsRow (w.heap.size+1) 111 3 (U a' n c') ps'.length (ps'.flatMap Pt.cells)) (hg:w1.grownBy w' vp.ownBlock)
  (hb:(Value.slice a' n c').ownBlock=vp.ownBlock∨∃g,(Value.slice a' n c').ownBlock=some g/\w1.heap.size<=g):l6 w (w'.setCell ⟨B7,3,none⟩ (U a' n c')) B6 B7 t k d h (U a' n c') ps':=by
 have hlt:∀{B:Nat} {o:Obj},wc.heap[B]? =some o->B<wc.heap.size:=fun h=>(γ h);obtain⟨ra,rc,N,Y⟩:=r.DQ;have z6:=hlt N;have z7:=hlt r.msg;have zg:=hG.size;have A2v:some B6≠vp.ownBlock:=fun e=>(r.QK B6 e.symm).1 rfl;have A2w:some B7≠vp.ownBlock:=fun e=>(r.QK B7 e.symm).2 rfl;have A2x:some w.heap.size≠vp.ownBlock:=fun e=>by have:=(r.own.lt _ e.symm).1;omega
 have A3A:=r.lo7;have hne:=r.ne;have hB:∀q,q≠B7->(w'.setCell ⟨B7,3,none⟩ (U a' n c')).heap[q]? =w'.heap[q]?:=fun q O=>Below.heap_setCell _ _ _ _ (fun e=>O e);have hdis:∀q,(Value.slice a' n c').ownBlock=some q->q≠B6/\q≠B7:=fun q O=>by
  rcases hb with e|⟨g,e,hge⟩
  ·exact r.QK q (e.symm.trans O)
  ·rw [e] at O
   obtain rfl:=bI O;constructor<;>omega
 refine⟨?_,?_,⟨ra,rc,?_,Y⟩,?_,?_,r.a_,r.lo7,r.ne,hdis⟩
 ·rw [hB _ V];exact bJ (aF r.res hG) hg A2x
 ·exact Ut (bJ (aF r.msg hG) hg A2w) _
 ·rw [hB _ hne];exact bJ (aF N hG) hg A2v
 ·exact owns_block ho fun q O=>hB q (hdis q O).2
 ·exact((r.grow.trans hG).grown hg (fun q O=>by have:=(r.own.lt q O).1;omega)).setCell (by simp;omega) _
theorem Uu {b:List UInt8} {e x y s:Nat} (hle:b.length=e+2) (Z:b[e]' V=UInt8.ofNat x) (hy:b[e+1]' V=UInt8.ofNat y) (pV:x<256) (hy2:y<256) (hs:xX (b.take e)=s):Ak b=decide (s=256*x+y):=by
 have e1:b.getD e 0=UInt8.ofNat x:=by rw [List.getD_eq_getElem?_getD,dM V,Z];rfl
 have e2:b.getD (e+1) 0=UInt8.ofNat y:=by rw [List.getD_eq_getElem?_getD,dM V,hy];rfl
 unfold Ak;rw [hle,show e+2 - 2=e by omega,show e+2 - 1=e+1 by omega,e1,e2,hs,qx pV,qx hy2]
theorem S8 (s:RS):h_ 3 s=([(dW s).1,(dW (dW s).2).1,(dW (dW (dW s).2).2).1],(dW (dW (dW s).2).2).2):=rfl
theorem DS {b:List UInt8} (h3:¬b.length<3) (hs:Ak b=true) {s s3:RS} {d h n:Int} (e0:s=((b.take (b.length - 2)).drop 1,0)) (e1:h_ 3 s=([d,h,n],s3)):
  readB b=if s3.2=0/\(n<0∨4<n) then(ms0,5) else Bh ⟨((b.getD 0 0).toNat:Nat),d,h,pairs h (h_ (2*n.toNat) s3).1⟩ (h_ (2*n.toNat) s3).2:=by
 rw [DO,aV h3,bC hs];unfold YC;rw [<-e0,e1];rfl
theorem bB {s:RS} (h:(dW s).2.2≠0):(dW s).1=0:=by
 unfold dW at h ⊢;split
 ·rfl
 ·split
  ·rfl
  ·rename_i N Y
   rw [aV N,aV Y] at h;exact absurd rfl h
theorem I64.of_next (s:RS):I64 (dW s).1:=by
 have:=Jt s;exact ku V V
theorem Uw {h:Int} (hh:I64 h) (s:RS):∀k,AY (pairs h (h_ (2*k) s).1)
 |0=>fun p hp=>by simp [h_,pairs] at hp
 |k+1=>fun p hp=>by
  rw [(LW h k s).1] at hp;rcases List.mem_append.1 hp with hp|hp
  ·exact Uw hh s k p hp
  ·simp only [List.mem_singleton] at hp
   subst hp;exact⟨hh,I64.of_next _,I64.of_next _⟩
theorem bE (h:Int) (k:Nat) (s:RS):(pairs h (h_ (2*k) s).1).length=k:=(Eh k (Ib _ _)).2
theorem bL {v:Value} {b:List UInt8} (w:World) (hv:Ya w.cell? v b):
  Calls Tryz.prog 80 #[v] w fun e w'=>∃v',e=.returned (.tuple #[v',J (readB b).2])/\Of Ty.ms (ov (fun _=>none) w w') v' (readB b).1/\aK w w':=by
 have HV:=I hv;obtain⟨a,cap,rfl,N,Y,-,hel⟩:=hv;unfold maxLen at Y;by_cases hl3:b.length<3
 ·have HE:Hid (readB b=(ms0,8)):=by show readB b=_;unfold readB;rw [bC hl3]
  have R2:=I (bn w (.cells #[J 0,J 0,J 0,()] 85));have G1:=I ((aG w).alloc (.cells #[J 0,J 0,J 0,()] 85));clear hel;go_enter Tryz.func80,Tryz.ntmps80;go_wp2_with (first|(refine aQ rfl (.tmp 2) (.tmp 12) rfl rfl rfl R2.o jo rfl rfl ?_))
  intro w7 r7 g7;obtain⟨p0,p1,p2,p3⟩:=aT r7;go_wp2;refine dw (v:=.tuple #[.agg #[J 0,J 0,J 0,()],J 8]) (by simp [results,Tryz.results80,go_sem,p0,p1,p2,p3]) rfl ?_;rw [HE.o];exact⟨_,rfl,oI _,G1.o.grown g7 (fun q O=>by simp at O;omega)⟩
 have YE:=I (fun(W:World) (hW:aK w W)=>Ul W ((HV.o.take' (b.length - 2) V).mono hW.sub));obtain⟨bb,o,rfl,c0⟩:=byteAt hel 0 V;obtain⟨bb',o',he,cx⟩:=byteAt hel (b.length - 2) V;obtain⟨rfl,rfl⟩:bb=bb'/\o=o':=by simpa using he
 obtain⟨bb',o',he',cy⟩:=byteAt hel (b.length - 1) V;obtain⟨rfl,rfl⟩:bb=bb'/\o=o':=by simpa using he'
 clear he he' hel;obtain⟨e,hle⟩:∃e,b.length=e+2:=⟨b.length - 2,V⟩;obtain⟨x,Z⟩:∃x,x=(b[b.length - 2]' V).toNat:=⟨_,rfl⟩;obtain⟨y,hy⟩:∃x,x=(b[b.length - 1]' V).toNat:=⟨_,rfl⟩;obtain⟨z,hz⟩:∃x,x=(b[0]' V).toNat:=⟨_,rfl⟩;obtain⟨s,hs⟩:=χ (xX (b.take (b.length - 2)));have pV:x<256:=by rw [Z];exact UInt8.toNat_lt _
 have hy2:y<256:=by rw [hy];exact UInt8.toNat_lt _
 have hz2:z<256:=by rw [hz];exact UInt8.toNat_lt _
 have hs1:s<65521:=by rw [hs];exact Fq _
 have hok:Ak b=decide (s=256*x+y):=by
  refine Uu (e:=e) hle ?_ ?_ pV hy2 (by rw [hs];congr 2;omega)
  ·rw [Z];simp [hle]
  ·rw [hy];simp [hle]
 have HZ:Hid (((b.getD 0 0).toNat:Nat)=z):=I (by rw [hz,List.getD_eq_getElem?_getD,dM V];rfl);rw [<-Z] at cx;rw [<-hy] at cy;rw [<-hz] at c0;rw [<-hs] at YE;rw [show b.length - 2=e by omega] at cx YE;rw [show b.length - 1=e+1 by omega] at cy;have YF:=I hl3;have HSL:=I (HV.o.take' (b.length - 2) V);rw [show b.length - 2=e by omega] at HSL;have L5:Hid (b.take (b.length - 2)=b.take e):=I (by congr 1;omega);have TC:Hid ((b.take e).length=e):=I (by rw [List.length_take];omega);rw [hle] at hl3 N ⊢;clear Z hy hz hs hle;have hc1:¬cap=1:=by omega
 have hsx:(x:Int)=(s:Int)/256/\(y:Int)=(s:Int) % 256↔s=256*x+y:=by omega
 have uM:=I hok;clear hok;by_cases ht:s=256*x+y
 ·have HOT:=I (show Ak b=true by rw [uM.o];exact decide_eq_true ht)
  have hbx:((x:Int) !=(s:Int)/256)=false:=by have:=(hsx.2 ht).1;simp [this]
  have hby:((y:Int) !=(s:Int) % 256)=false:=by have:=(hsx.2 ht).2;simp [this]
  clear hsx uM ht;go_enter Tryz.func80,Tryz.ntmps80;go_wp2_with fail
  refine(YE.o _ ((aG _).alloc _)).mono ?_;rintro e0 w1 ⟨rfl,dZ⟩;have R2:=I (aF (bn w (.cells #[J 0,J 0,J 0,()] 85)) dZ);have G1:=I (((aG w).alloc (.cells #[J 0,J 0,J 0,()] 85)).trans dZ);have Hw:=I c0;replace c0:=G1.o.sub _ _ c0;replace cx:=G1.o.sub _ _ cx;replace cy:=G1.o.sub _ _ cy;have z2:w.heap.size<w1:=(γ R2.o);have Z2:=I z2;clear dZ;go_wp2_with fail
  obtain⟨wa,fZ⟩:=χ (w1.alloc (.cells #[U (some ⟨bb,o+1,none⟩) (e - 1) (cap - 1),J 0] 161));have RA:Hid (aR wa w1.heap.size w.cell? ((b.take e).drop 1,0)):=I (by
   rw [fZ];have h9:=HSL.o.drop 1 V;have e9:((b.take e).drop 1).length=e - 1:=by rw [List.length_drop,TC.o]
   refine⟨some ⟨bb,o+1,none⟩,cap - 1,?_,?_⟩
   ·rw [show(List.drop 1 (List.take e b),(0:Int)).1.length=e - 1 from e9];exact bn _ _
   ·rw [show(List.drop 1 (List.take e b),(0:Int)).1.length=e - 1 from e9];simpa [Ty.byte] using h9)
  have GA:Hid (aK w wa):=I (by rw [fZ];exact G1.o.alloc _);have R2A:Hid (wa.heap[w.heap.size]? =some (.cells #[J 0,J 0,J 0,()] 85 (0,0))):=I (by rw [fZ];exact bQ R2.o _);rw [<-fZ];clear fZ;obtain⟨B6,J7⟩:=χ w1.heap.size;rw [<-J7] at RA ⊢;have H6:Hid (w.heap.size<B6):=I (by rw [J7];exact Z2.o);clear J7 c0 cx cy hbx hby z2 Z2 R2;go_cut [7] from 44 (fun s7 wc=>∃B7,s7=.pointer (some ⟨B7,0,none⟩)/\l6 w wc B6 B7 (dW (dW ((b.take e).drop 1,0)).2).2 z (dW ((b.take e).drop 1,0)).1 (dW (dW ((b.take e).drop 1,0)).2).1 (U none 0 0) [])
  case first=>
   generalize ((b.take e).drop 1,(0:Int))=t0 at*;have hzw:IntKind.i64.wrap (z:Int)=(z:Int):=IntWalk.i64_in _ V;have he0:(0:Int)<(e:Int)+2:=by omega
   refine dH (fun w'=>w'.cell? ⟨bb,o,none⟩=some (.int .u8 z)) 10 κ ?_;obtain⟨wd,hWd⟩:=χ wa.drew;rw [<-hWd];have GD:aK wa wd:=by rw [hWd];exact(aG _).drew
   have zD:wa.heap.size=wd.heap.size:=by rw [hWd];rfl
   clear hWd zD;refine qJ [0,1,2,3,4,6] 13 κ (fun _ _ _ _ _ h=>h) ((GA.o.trans GD).sub _ _ Hw.o) ?_;repeat (refine PH (v:=?_) rfl ρ ?_ ?_;rotate_left;(· (intro w' hSw;(try dsimp only at hSw);go_simp<;>with_reducible rfl));try simp only [bT])
   refine qK ?_;refine bP 5 9 κ rfl rfl ?_ ?_
   ·intro K M
    try simp only [dD]
    go_simp;go_at_call 124
    refine(qy (c:=w.cell?) (RA.o.grow GD) ((GA.o.trans GD)).sub).mono ?_;rintro ec1 c1 ⟨rfl,hr,hg⟩;have D0:=I ((GA.o.trans GD).grown hg (fun q O=>by have:=H6.o;simp at O;omega));have L7:=I (bJ (aF R2A.o GD) hg (by have:=H6.o;intro e9;have:=bI e9;omega));have l8:=I hr;clear hr hg;refine ψ M (fun _=>D0.o.sub _ _ Hw.o) ?_;try simp only [bT]
    refine bP 7 9 κ rfl rfl ?_ ?_
    ·intro K M
     try simp only [dD]
     go_simp;go_at_call 124
     refine(qy (c:=w.cell?) l8.o (D0.o).sub).mono ?_;rintro ec2 c2 ⟨rfl,hr,hg⟩;have D2:=I (D0.o.grown hg (fun q O=>by have:=H6.o;simp at O;omega));have MA:=I (bJ L7.o hg (by have:=H6.o;intro e9;have:=bI e9;omega));have YG:=I hr;clear hr hg;refine ψ M (fun _=>D2.o.sub _ _ Hw.o) ?_;try simp only [bT]
     refine bP 8 9 κ rfl rfl ?_ ?_
     ·intro K M
      try simp only [dD]
      go_simp;refine ψ M (fun _=>D2.o.sub _ _ Hw.o) ?_;try simp only [bT]
      refine bO 9 κ rfl ?_;intro K M;try simp only [dD]
      go_simp;obtain⟨c3,hc3⟩:=χ (c2.alloc (.cells #[J 0,J 0,J 0,()] 85));obtain⟨B7,Fz⟩:=χ c2.heap.size;rw [<-hc3,<-Fz];have A07:Hid (aK w c3):=I (by rw [hc3];exact(D2.o).alloc _);have A08:Hid (c3.heap[w.heap.size]? =some (.cells #[J 0,J 0,J 0,()] 85 (0,0))):=I (by rw [hc3];exact bQ MA.o _);have A09:Hid (c3.heap[B7]? =some (.cells #[J 0,J 0,J 0,()] 85 (0,0))):=I (by rw [hc3,Fz];exact bn _ _);have A0_:Hid (aR c3 B6 w.cell? (dW (dW t0).2).2):=I (by rw [hc3];exact YG.o.grow ((aG _).alloc _));have rE:Hid (B6≠B7/\w.heap.size<B7):=I (by obtain⟨ra,rc,rh,-⟩:=YG.o;have:=(γ rh);have:=H6.o;omega);clear hc3 Fz;refine ψ M (fun _=>A07.o.sub _ _ Hw.o) ?_;try simp only [bT]
      refine bO 10 κ rfl ?_;intro K M;refine aY rfl ?_;try simp only [dD]
      refine b_ (.tmp 7) (.tmp 52) rfl rfl rfl A09.o jo rfl rfl ?_;intro wz rz gz;refine ψ M (fun h=>absurd rfl h) ?_;try simp only [bT]
      refine bW κ ?_;go_wp2;go_meet
      case rel=>
       refine⟨B7,rfl,bJ A08.o gz (by have:=rE.o.2;intro e9;have:=bI e9;omega),rz,?_,World.ownsRow_nil _ _ _ _,A07.o.grown gz (fun q O=>by have:=rE.o.2;simp at O;omega),H6.o,rE.o.2,rE.o.1,fun q O=>by simp [Value.ownBlock] at O⟩;obtain⟨ra,rc,rh,rl⟩:=A0_.o;exact⟨ra,rc,bJ rh gz (by have:=rE.o.1;intro e9;have:=bI e9;omega),rl⟩
     ·intro K M
      try simp only [dD]
      go_simp;obtain⟨c4,hc4⟩:=χ (c2.alloc (.cells #[J 0,J 0,J 0,()] 85));obtain⟨B7,Fz⟩:=χ c2.heap.size;rw [<-hc4,<-Fz];have TE:Hid (aK w c4):=I (by rw [hc4];exact(D2.o).alloc _);have A1a:Hid (c4.heap[w.heap.size]? =some (.cells #[J 0,J 0,J 0,()] 85 (0,0))):=I (by rw [hc4];exact bQ MA.o _);have A1b:Hid (c4.heap[B7]? =some (.cells #[J 0,J 0,J 0,()] 85 (0,0))):=I (by rw [hc4,Fz];exact bn _ _);have A1c:Hid (aR c4 B6 w.cell? (dW (dW t0).2).2):=I (by rw [hc4];exact YG.o.grow ((aG _).alloc _));have rE:Hid (B6≠B7/\w.heap.size<B7):=I (by obtain⟨ra,rc,rh,-⟩:=YG.o;have:=(γ rh);have:=H6.o;omega);clear hc4 Fz;refine ψ M (fun _=>TE.o.sub _ _ Hw.o) ?_;try simp only [bT]
      refine bO 8 κ rfl ?_;intro K M;try simp only [dD]
      go_simp;refine ψ M (fun _=>TE.o.sub _ _ Hw.o) ?_;try simp only [bT]
      refine bO 10 κ rfl ?_;intro K M;refine aY rfl ?_;try simp only [dD]
      refine b_ (.tmp 7) (.tmp 52) rfl rfl rfl A1b.o jo rfl rfl ?_;intro wz rz gz;refine ψ M (fun h=>absurd rfl h) ?_;try simp only [bT]
      refine bW κ ?_;go_wp2;go_meet
      case rel=>
       refine⟨B7,rfl,bJ A1a.o gz (by have:=rE.o.2;intro e9;have:=bI e9;omega),rz,?_,World.ownsRow_nil _ _ _ _,TE.o.grown gz (fun q O=>by have:=rE.o.2;simp at O;omega),H6.o,rE.o.2,rE.o.1,fun q O=>by simp [Value.ownBlock] at O⟩;obtain⟨ra,rc,rh,rl⟩:=A1c.o;exact⟨ra,rc,bJ rh gz (by have:=rE.o.1;intro e9;have:=bI e9;omega),rl⟩
    ·intro K M
     try simp only [dD]
     go_simp;obtain⟨c5,hc5⟩:=χ (c1.alloc (.cells #[J 0,J 0,J 0,()] 85));obtain⟨B7,Fz⟩:=χ c1.heap.size;rw [<-hc5,<-Fz];have TH:Hid (aK w c5):=I (by rw [hc5];exact(D0.o).alloc _);have A1d:Hid (c5.heap[w.heap.size]? =some (.cells #[J 0,J 0,J 0,()] 85 (0,0))):=I (by rw [hc5];exact bQ L7.o _);have A1e:Hid (c5.heap[B7]? =some (.cells #[J 0,J 0,J 0,()] 85 (0,0))):=I (by rw [hc5,Fz];exact bn _ _);have A1f:Hid (aR c5 B6 w.cell? (dW t0).2):=I (by rw [hc5];exact l8.o.grow ((aG _).alloc _));have rE:Hid (B6≠B7/\w.heap.size<B7):=I (by obtain⟨ra,rc,rh,-⟩:=l8.o;have:=(γ rh);have:=H6.o;omega);clear hc5 Fz;refine ψ M (fun _=>TH.o.sub _ _ Hw.o) ?_;try simp only [bT]
     refine bO 7 κ rfl ?_;intro K M;try simp only [dD]
     go_simp;go_at_call 124
     refine(qy (c:=w.cell?) A1f.o (TH.o).sub).mono ?_;rintro ec6 c6 ⟨rfl,hr,hg⟩;have TO:=I (TH.o.grown hg (fun q O=>by have:=H6.o;simp at O;omega));have A1g:=I (bJ A1d.o hg (by have:=H6.o;intro e9;have:=bI e9;omega));have A1h:=I (bJ A1e.o hg (by have:=rE.o.1;intro e9;have:=bI e9;omega));have A1i:=I hr;clear hr hg;refine ψ M (fun _=>TO.o.sub _ _ Hw.o) ?_;try simp only [bT]
     refine bO 8 κ rfl ?_;intro K M;try simp only [dD]
     go_simp;refine ψ M (fun _=>TO.o.sub _ _ Hw.o) ?_;try simp only [bT]
     refine bO 10 κ rfl ?_;intro K M;refine aY rfl ?_;try simp only [dD]
     refine b_ (.tmp 7) (.tmp 52) rfl rfl rfl A1h.o jo rfl rfl ?_;intro wz rz gz;refine ψ M (fun h=>absurd rfl h) ?_;try simp only [bT]
     refine bW κ ?_;go_wp2;go_meet
     case rel=>
      refine⟨B7,rfl,bJ A1g.o gz (by have:=rE.o.2;intro e9;have:=bI e9;omega),rz,?_,World.ownsRow_nil _ _ _ _,TO.o.grown gz (fun q O=>by have:=rE.o.2;simp at O;omega),H6.o,rE.o.2,rE.o.1,fun q O=>by simp [Value.ownBlock] at O⟩;obtain⟨ra,rc,rh,rl⟩:=A1i.o;exact⟨ra,rc,bJ rh gz (by have:=rE.o.1;intro e9;have:=bI e9;omega),rl⟩
   ·intro K M
    try simp only [dD]
    go_simp;obtain⟨c7,hc7⟩:=χ (wd.alloc (.cells #[J 0,J 0,J 0,()] 85));obtain⟨B7,Fz⟩:=χ wd.heap.size;rw [<-hc7,<-Fz];have TX:Hid (aK w c7):=I (by rw [hc7];exact((GA.o.trans GD)).alloc _);have A1j:Hid (c7.heap[w.heap.size]? =some (.cells #[J 0,J 0,J 0,()] 85 (0,0))):=I (by rw [hc7];exact bQ (aF R2A.o GD) _);have A1k:Hid (c7.heap[B7]? =some (.cells #[J 0,J 0,J 0,()] 85 (0,0))):=I (by rw [hc7,Fz];exact bn _ _);have A1l:Hid (aR c7 B6 w.cell? t0):=I (by rw [hc7];exact(RA.o.grow GD).grow ((aG _).alloc _));have rE:Hid (B6≠B7/\w.heap.size<B7):=I (by obtain⟨ra,rc,rh,-⟩:=(RA.o.grow GD);have:=(γ rh);have:=H6.o;omega);clear hc7 Fz;refine ψ M (fun _=>TX.o.sub _ _ Hw.o) ?_;try simp only [bT]
    refine bO 5 κ rfl ?_;intro K M;try simp only [dD]
    go_simp;go_at_call 124
    refine(qy (c:=w.cell?) A1l.o (TX.o).sub).mono ?_;rintro ec8 c8 ⟨rfl,hr,hg⟩;have TZ:=I (TX.o.grown hg (fun q O=>by have:=H6.o;simp at O;omega));have A1m:=I (bJ A1j.o hg (by have:=H6.o;intro e9;have:=bI e9;omega));have A1n:=I (bJ A1k.o hg (by have:=rE.o.1;intro e9;have:=bI e9;omega));have A1o:=I hr;clear hr hg;refine ψ M (fun _=>TZ.o.sub _ _ Hw.o) ?_;try simp only [bT]
    refine bO 7 κ rfl ?_;intro K M;try simp only [dD]
    go_simp;go_at_call 124
    refine(qy (c:=w.cell?) A1o.o (TZ.o).sub).mono ?_;rintro ec9 c9 ⟨rfl,hr,hg⟩;have T0:=I (TZ.o.grown hg (fun q O=>by have:=H6.o;simp at O;omega));have A1p:=I (bJ A1m.o hg (by have:=H6.o;intro e9;have:=bI e9;omega));have A1q:=I (bJ A1n.o hg (by have:=rE.o.1;intro e9;have:=bI e9;omega));have A1r:=I hr;clear hr hg;refine ψ M (fun _=>T0.o.sub _ _ Hw.o) ?_;try simp only [bT]
    refine bO 8 κ rfl ?_;intro K M;try simp only [dD]
    go_simp;refine ψ M (fun _=>T0.o.sub _ _ Hw.o) ?_;try simp only [bT]
    refine bO 10 κ rfl ?_;intro K M;refine aY rfl ?_;try simp only [dD]
    refine b_ (.tmp 7) (.tmp 52) rfl rfl rfl A1q.o jo rfl rfl ?_;intro wz rz gz;refine ψ M (fun h=>absurd rfl h) ?_;try simp only [bT]
    refine bW κ ?_;go_wp2;go_meet
    case rel=>
     refine⟨B7,rfl,bJ A1p.o gz (by have:=rE.o.2;intro e9;have:=bI e9;omega),rz,?_,World.ownsRow_nil _ _ _ _,T0.o.grown gz (fun q O=>by have:=rE.o.2;simp at O;omega),H6.o,rE.o.2,rE.o.1,fun q O=>by simp [Value.ownBlock] at O⟩;obtain⟨ra,rc,rh,rl⟩:=A1r.o;exact⟨ra,rc,bJ rh gz (by have:=rE.o.1;intro e9;have:=bI e9;omega),rl⟩
  case rest=>
  obtain⟨B7,rfl,hst⟩:=hcut;have HST:=I hst;have OA:Hid (readB b=if(dW (dW (dW ((b.take e).drop 1,0)).2).2).2.2=0/\((dW (dW (dW ((b.take e).drop 1,0)).2).2).1<0∨4<(dW (dW (dW ((b.take e).drop 1,0)).2).2).1) then(ms0,5)
   else Bh ⟨z,(dW ((b.take e).drop 1,0)).1,(dW (dW ((b.take e).drop 1,0)).2).1,pairs (dW (dW ((b.take e).drop 1,0)).2).1 (h_ (2*(dW (dW (dW ((b.take e).drop 1,0)).2).2).1.toNat) (dW (dW (dW ((b.take e).drop 1,0)).2).2).2).1⟩ (h_ (2*(dW (dW (dW ((b.take e).drop 1,0)).2).2).1.toNat) (dW (dW (dW ((b.take e).drop 1,0)).2).2).2).2):=I (by
   rw [DS YF.o HOT.o (s:=((b.take e).drop 1,0)) (by rw [L5.o]) (S8 _),HZ.o])
  have T1:=I (I64.of_next ((b.take e).drop 1,0));have HIH:=I (I64.of_next (dW ((b.take e).drop 1,0)).2);have HIZ:Hid (I64 (z:Int)):=I (ku V V);clear hst RA GA R2A;generalize (dW (dW ((b.take e).drop 1,0)).2).1=h at*;generalize (dW (dW ((b.take e).drop 1,0)).2).2=t2 at*;generalize (dW ((b.take e).drop 1,0)).1=d at*;go_wp2_with fail
  refine(qy (c:=w.cell?) HST.o.DQ HST.o.grow.sub).mono ?_;rintro e9 w9 ⟨rfl,hr,hg⟩;have H9:=I (HST.o.next hr hg);have hnz:=bB (s:=t2);have hnb:=Jt t2;clear hr hg;generalize (dW t2).1=n at*;generalize (dW t2).2=s3 at*;obtain⟨ra,rc,hrow,-⟩:=H9.o.DQ;obtain⟨q0,q1⟩:=jP hrow;have z6:B6<w9.heap.size:=(γ hrow);have R2:=I H9.o.res;have G9:=I H9.o.grow;clear hrow;by_cases he3:s3.2=0
  ·have hbe:(s3.2==0)=true:=by simp [he3]
   by_cases hn0:n<0
   ·have HE:Hid (readB b=(ms0,5)):=I (by rw [OA.o,bC ⟨he3,.inl hn0⟩])
    clear he3 hnz;go_wp2_with (first|(refine aQ rfl (.tmp 2) (.tmp 68) rfl rfl rfl R2.o jo rfl rfl ?_))
    intro w7 r7 g7;obtain⟨p0,p1,p2,p3⟩:=aT r7;go_wp2;refine dw (v:=.tuple #[.agg #[J 0,J 0,J 0,()],J 5]) (by simp [results,Tryz.results80,go_sem,p0,p1,p2,p3]) rfl ?_;rw [HE.o];exact⟨_,rfl,oI _,G9.o.grown g7 (fun q O=>by simp at O;omega)⟩
   by_cases hn4:4<n
   ·have HE:Hid (readB b=(ms0,5)):=I (by rw [OA.o,bC ⟨he3,.inr hn4⟩])
    clear he3 hnz;go_wp2_with (first|(refine aQ rfl (.tmp 2) (.tmp 68) rfl rfl rfl R2.o jo rfl rfl ?_))
    intro w7 r7 g7;obtain⟨p0,p1,p2,p3⟩:=aT r7;go_wp2;refine dw (v:=.tuple #[.agg #[J 0,J 0,J 0,()],J 5]) (by simp [results,Tryz.results80,go_sem,p0,p1,p2,p3]) rfl ?_;rw [HE.o];exact⟨_,rfl,oI _,G9.o.grown g7 (fun q O=>by simp at O;omega)⟩
   obtain⟨aB,rfl⟩:∃aB:Nat,n=aB:=⟨n.toNat,V⟩;have T2:Hid (readB b=Bh ⟨z,d,h,pairs h (h_ (2*aB) s3).1⟩ (h_ (2*aB) s3).2):=I (by rw [OA.o,aV V,Int.toNat_natCast]);clear he3 hnz hnb OA;go_wp2;go_loopw [70] (fun i wr=>∃(k:Nat) (vp:Value),k<=aB/\i=J k/\l6 w wr B6 B7 (h_ (2*k) s3).2 z d h vp (pairs h (h_ (2*k) s3).1)) (fun i _=>aB - (intOf i).toNat)
   case atStart=>exact⟨0,_,V,rfl,H9.o⟩
   case round=>
    obtain⟨k,vp,hk',rfl,hr⟩:=hrel;obtain⟨ap,cp,rfl⟩:=dG hr.own;have HR:=I hr;clear q0 q1;by_cases hlt:k<aB
    ·have HPN:=I (LW h k s3)
     have D3:=I (bE h k s3);clear hr;generalize (h_ (2*k) s3).2=t at*;generalize pairs h (h_ (2*k) s3).1=ps at*;have HS:Hid (∀W,(∃t' k' d',l6 w W B6 B7 t' k' d' h (U ap ps.length cp) ps)->W.cell? ⟨B7,2,none⟩=some (J h)/\W.cell? ⟨B7,3,none⟩=some (U ap ps.length cp)):=fun W ⟨_,_,_,hW⟩=>by
      obtain⟨-,-,m2,m3⟩:=aT hW.msg;exact⟨m2,m3⟩
     go_wp2;refine dH (fun w'=>w'.cell? ⟨B7,2,none⟩=some (J h)/\w'.cell? ⟨B7,3,none⟩=some (U ap ps.length cp)) 12 κ ?_;obtain⟨wd,hWd⟩:=χ wr.drew;rw [<-hWd];have GD:aK wr wd:=by rw [hWd];exact(aG _).drew
     have zD:wr.heap.size=wd.heap.size:=by rw [hWd];rfl
     have RD0:Hid (l6 w wd B6 B7 t z d h (U ap ps.length cp) ps):=I (HR.o.next (HR.o.DQ.grow GD) (aO GD _));clear hWd zD;refine qJ [0,1,2,3,4,6] 15 κ (fun _ _ _ _ _ h=>h) (HS.o _ ⟨_,_,_,RD0.o⟩) ?_;repeat (refine jY ?_;try simp only [bT])
     refine qK ?_;refine bO 5 κ rfl ?_;intro K M;try simp only [dD]
     go_simp;go_at_call 124
     refine(qy (c:=w.cell?) RD0.o.DQ RD0.o.grow.sub).mono ?_;rintro ex5 x5 ⟨rfl,hr,hg⟩;have Sx5:=I (RD0.o.next hr hg);clear hr hg;refine ψ M (fun _=>HS.o _ ⟨_,_,_,Sx5.o⟩) ?_;try simp only [bT]
     refine bO 7 κ rfl ?_;intro K M;try simp only [dD]
     go_simp;go_at_call 124
     refine(qy (c:=w.cell?) Sx5.o.DQ Sx5.o.grow.sub).mono ?_;rintro ex7 x7 ⟨rfl,hr,hg⟩;have OB:=I (Sx5.o.next hr hg);clear hr hg;refine ψ M (fun _=>HS.o _ ⟨_,_,_,OB.o⟩) ?_;try simp only [bT]
     refine bO 8 κ rfl ?_;intro K M;try simp only [dD]
     go_simp;refine ψ M (fun _=>HS.o _ ⟨_,_,_,OB.o⟩) ?_;try simp only [bT]
     refine bO 9 κ rfl ?_;intro K M;try simp only [dD]
     go_simp;obtain⟨y9,D4⟩:=χ (x7.alloc (.cells #[J h,J (dW t).1,J (dW (dW t).2).1] 111));have GY:aK x7 y9:=by rw [D4];exact(aG _).alloc _
     have RY:y9.heap[x7.heap.size]? =some (.cells #[J h,J (dW t).1,J (dW (dW t).2).1] 111 (0,0)):=by rw [D4];exact bn _ _
     have HY:=I (And.intro GY RY);rw [<-D4];clear D4 GY RY;refine ψ M (fun _=>⟨(aT (aF OB.o.msg HY.o.1)).2.2.1,(aT (aF OB.o.msg HY.o.1)).2.2.2⟩) ?_;try simp only [bT]
     refine bO 10 κ rfl ?_;intro K M;refine aY rfl ?_;try simp only [dD]
     refine vH (n:=ps.length) Ky (.tmp 73) (.tmp 81) rfl rfl (kE OB.o.own HY.o.1) (some ⟨x7,0,none⟩) 1 1 [J h,J (dW t).1,J (dW (dW t).2).1] rfl σ rfl (fun ad had j u hu=>?news) (Wn ⟨h,(dW t).1,(dW (dW t).2).1⟩) (by have:=D3.o;unfold maxLen;omega) (τ D3.o) (by have:=HY.o.1.size;have:=OB.o.grow.size;have:=(γ OB.o.msg);have:=OB.o.lo7;omega) ?_
     case news=>
      obtain rfl:=bI had;have h9:=iI HY.o.2;rw [Addr.add_lit,Nat.zero_add];match j,hu with
      |0,hu=>simp at hu;rw [<-hu];exact h9.1
      |1,hu=>simp at hu;rw [<-hu];exact h9.2.1
      |2,hu=>simp at hu;rw [<-hu];exact h9.2.2
      |j+3,hu=>simp at hu
     intro a9 c9 z9 hA;have HA:=I hA;clear hA;refine ψ M (fun _=>⟨(aT (bJ (aF OB.o.msg HY.o.1) HA.o.grown (fun e9=>(OB.o.QK _ e9.symm).2 rfl))).2.2.1,(aT (bJ (aF OB.o.msg HY.o.1) HA.o.grown (fun e9=>(OB.o.QK _ e9.symm).2 rfl))).2.2.2⟩) ?_;try simp only [bT]
     refine bO 11 κ rfl ?_;intro K M;try simp only [dD]
     go_simp;refine ψ M (fun _=>⟨(aT (bJ (aF OB.o.msg HY.o.1) HA.o.grown (fun e9=>(OB.o.QK _ e9.symm).2 rfl))).2.2.1,(aT (bJ (aF OB.o.msg HY.o.1) HA.o.grown (fun e9=>(OB.o.QK _ e9.symm).2 rfl))).2.2.2⟩) ?_;try simp only [bT]
     refine bO 12 κ rfl ?_;intro K M;try simp only [dD]
     obtain⟨m0,m1,m2,m3⟩:=aT (bJ (aF OB.o.msg HY.o.1) HA.o.grown (fun e9=>(OB.o.QK _ e9.symm).2 rfl));have f9:=gJ (bJ (aF OB.o.msg HY.o.1) HA.o.grown (fun e9=>(OB.o.QK _ e9.symm).2 rfl));go_simp;clear m0 m1 m2 m3 f9;refine ψ M (fun h=>absurd rfl h) ?_;try simp only [bT]
     refine bW κ ?_;go_wp2;go_roundw
     case rel=>
      refine⟨k+1,U a9 (ps.length+1) c9,V,by go_num,?_⟩;rw [HPN.o.1,HPN.o.2];refine l6.part (ps':=ps++ [⟨h,(dW t).1,(dW (dW t).2).1⟩]) OB.o HY.o.1 ?_ HA.o.grown HA.o.blk;have h9:=HA.o.own;simpa [Pt.cells] using h9
     case measure=>simp [intOf];omega
    ·obtain rfl:k=aB:=by omega
     have Ux:=I (Uw HIH.o s3 k);obtain⟨wx,rfl⟩:=χ wr;clear hr;generalize pairs h (h_ (2*k) s3).1=ps at*;generalize (h_ (2*k) s3).2=sN at*;obtain⟨lN,eN⟩:=sN;obtain⟨rb,rd,hrow,-⟩:=HR.o.DQ;simp only at hrow;have RX0:=I hrow;have T3:=I HR.o.res;have GX0:=I HR.o.grow;obtain⟨q0,q1⟩:=jP hrow;have z6x:B6<wx.heap.size:=(γ hrow);have f6:=gJ hrow;clear hrow;by_cases hN:eN=0
     ·subst hN
      by_cases T4:lN=[]
      ·have T5:Hid (readB b=if cZ ⟨z,d,h,ps⟩=0 then(⟨z,d,h,ps⟩,0) else(ms0,cZ ⟨z,d,h,ps⟩)):=I (by
        rw [T2.o];unfold Bh;rw [bC (by simp [T4])])
       have hll:¬(0:Int)<(lN.length:Int):=by rw [T4];simp
       obtain⟨m0,m1,m2,m3⟩:=aT HR.o.msg;have z7x:B7<wx.heap.size:=(γ HR.o.msg);have HW:=I (fun(W:World) (hW:aK wx W)=>WY (m:=⟨z,d,h,ps⟩) W ⟨_,rfl,U ap ps.length cp,rfl,HIZ.o,T1.o,HIH.o,(pX.yZ HR.o.own Ux.o).mono hW.sub⟩);clear T4;go_wp2_with fail
       refine(HW.o _ (aG _)).mono ?_;rintro eq wy ⟨rfl,hby⟩;have RY:=I (aF RX0.o hby);have R2Y:=I (aF T3.o hby);have RMY:=I (aF HR.o.msg hby);have OWY:=I (kE HR.o.own hby);have GY:=I (GX0.o.trans hby);clear hby q0 q1 f6 m0 m1 m2 m3 z6x z7x;obtain⟨EA,LY⟩:=χ (wy.setCell ⟨B6,1,none⟩ (J (cZ ⟨z,d,h,ps⟩)));have GS:Hid (wy.grownBy EA (some B6)):=I (by rw [LY];exact dS wy ⟨B6,1,none⟩ _);have RX:Hid (EA.heap[B6]? =some (.cells #[U rb lN.length rd,J (cZ ⟨z,d,h,ps⟩)] 161 (0,0))):=I (by rw [LY];exact Eo RY.o _);have YH:=I (bJ R2Y.o GS.o (by have:=H9.o.a_;intro e9;have:=bI e9;omega));have T6:=I (bJ RMY.o GS.o (by have:=H9.o.ne;intro e9;have:=bI e9;omega));have OWX:=I (OWY.o.kept GS.o (by
        cases e9:(Value.slice ap ps.length cp).ownBlock with
        |none=>exact .inl rfl
        |some q=>exact .inr (by have:=(HR.o.QK q e9).1;intro e8;have:=bI e8;omega)))
       have GX:=I (GY.o.grown GS.o (fun q O=>by have:=H9.o.a_;simp at O;omega));obtain⟨q0,q1⟩:=jP RY.o;have z6y:B6<wy.heap.size:=(γ RY.o);have f6:=gJ RY.o;by_cases hwr:cZ ⟨z,d,h,ps⟩=0
       ·have HE:Hid (readB b=(⟨z,d,h,ps⟩,0)):=I (by rw [T5.o,bC hwr])
        have hbw:(cZ ⟨z,d,h,ps⟩ !=0)=false:=by simp [hwr]
        clear hwr;generalize cZ ⟨z,d,h,ps⟩=er at*;go_upto_region 20 with fail
        rw [<-LY];clear LY q0 q1 f6;obtain⟨q0,q1⟩:=jP RX.o;obtain⟨m0,m1,m2,m3⟩:=aT T6.o;have z7x:B7<EA.heap.size:=(γ T6.o);have z6z:B6<EA.heap.size:=(γ RX.o);go_wp2_with (first|(refine aQ rfl (.tmp 2) (.tmp 121) rfl rfl rfl YH.o jo rfl rfl ?_))
        intro w7 r7 g7;obtain⟨p0,p1,p2,p3⟩:=aT r7;clear q0 q1 m0 m1 m2 m3;go_wp2;refine dw (v:=.tuple #[.agg #[J z,J d,J h,U ap ps.length cp],J 0]) (by simp [results,Tryz.results80,go_sem,p0,p1,p2,p3]) rfl ?_;rw [HE.o];refine⟨_,rfl,⟨_,rfl,_,rfl,HIZ.o,T1.o,HIH.o,?_⟩,GX.o.grown g7 (fun q O=>by simp at O;omega)⟩;have h9:=bK.pts (c:=fun _=>none) (OWX.o.kept g7 (by
         cases e9:(Value.slice ap ps.length cp).ownBlock with
         |none=>exact .inl rfl
         |some q=>exact .inr (by have:=(OWX.o.lt q e9).1;intro e8;have:=bI e8;omega))) Ux.o
        exact h9.slc ε (fun _ _ e9=>by cases e9) (fun a9 ha=>dY V)
       ·have HE:Hid (readB b=(ms0,cZ ⟨z,d,h,ps⟩)):=I (by rw [T5.o,aV hwr])
        have hbw:(cZ ⟨z,d,h,ps⟩ !=0)=true:=by simp [hwr]
        clear hwr;generalize cZ ⟨z,d,h,ps⟩=er at*;go_upto_region 20 with fail
        rw [<-LY];clear LY q0 q1 f6;obtain⟨wx,rfl⟩:=χ EA;obtain⟨q0,q1⟩:=jP RX.o;have z6z:B6<wx.heap.size:=(γ RX.o);go_wp2_with fail
        clear q0 q1;refine dH (fun w'=>w'.cell? ⟨B6,1,none⟩=some (J (er))) 6 κ ?_;obtain⟨wd,hWd⟩:=χ wx.drew;rw [<-hWd];have GD:aK wx wd:=by rw [hWd];exact(aG _).drew
        have zD:wx.heap.size=wd.heap.size:=by rw [hWd];rfl
        clear hWd zD;refine qJ [0,1,2,3,4] 9 κ (fun _ _ _ _ _ h=>h) ((jP (aF RX.o GD)).2) ?_;repeat (refine PH (v:=?_) rfl ρ ?_ ?_;rotate_left;(· (intro w' hSw;(try dsimp only at hSw);go_simp<;>with_reducible rfl));try simp only [bT])
        refine qK ?_;refine bO 5 κ rfl ?_;intro K M;refine aY rfl ?_;try simp only [dD]
        refine b_ (.tmp 2) (.tmp 116) rfl rfl rfl (aF YH.o GD) jo rfl rfl ?_;intro w7 r7 g7;refine ψ M (fun _=>(jP (bJ (aF RX.o GD) g7 (by have:=H9.o.a_;intro e9;have:=bI e9;omega))).2) ?_;try simp only [bT]
        refine bO 6 κ rfl ?_;intro K M;try simp only [dD]
        go_simp;refine ψ M (fun h=>absurd rfl h) ?_;try simp only [bT]
        refine bW κ ?_;obtain⟨p0,p1,p2,p3⟩:=aT r7;go_wp2;refine dw (v:=.tuple #[.agg #[J 0,J 0,J 0,()],J (er)]) (by simp [results,Tryz.results80,go_sem,p0,p1,p2,p3]) rfl ?_;rw [HE.o];exact⟨_,rfl,oI _,(GX.o.trans GD).grown g7 (fun q O=>by simp at O;omega)⟩
      ·have HE:Hid (readB b=(ms0,2)):=I (by
        rw [T2.o];unfold Bh;rw [aV (by simp [T4])];simp [T4])
       have hll:(0:Int)<(lN.length:Int):=by have:=List.length_pos_iff.2 T4;omega
       obtain⟨EA,LY⟩:=χ (wx.setCell ⟨B6,1,none⟩ (J 2));have GS:Hid (wx.grownBy EA (some B6)):=I (by rw [LY];exact dS wx ⟨B6,1,none⟩ _);have RX:Hid (EA.heap[B6]? =some (.cells #[U rb lN.length rd,J 2] 161 (0,0))):=I (by rw [LY];exact Eo RX0.o _);have YH:=I (bJ T3.o GS.o (by have:=H9.o.a_;intro e9;have:=bI e9;omega));have GX:=I (GX0.o.grown GS.o (fun q O=>by have:=H9.o.a_;simp at O;omega));clear T4;go_upto_region 18 with fail
       rw [<-LY];clear LY q0 q1 f6 z6x;obtain⟨wx,rfl⟩:=χ EA;obtain⟨q0,q1⟩:=jP RX.o;have z6z:B6<wx.heap.size:=(γ RX.o);go_wp2_with fail
       clear q0 q1;refine dH (fun w'=>w'.cell? ⟨B6,1,none⟩=some (J (2))) 6 κ ?_;obtain⟨wd,hWd⟩:=χ wx.drew;rw [<-hWd];have GD:aK wx wd:=by rw [hWd];exact(aG _).drew
       have zD:wx.heap.size=wd.heap.size:=by rw [hWd];rfl
       clear hWd zD;refine qJ [0,1,2,3,4] 9 κ (fun _ _ _ _ _ h=>h) ((jP (aF RX.o GD)).2) ?_;repeat (refine PH (v:=?_) rfl ρ ?_ ?_;rotate_left;(· (intro w' hSw;(try dsimp only at hSw);go_simp<;>with_reducible rfl));try simp only [bT])
       refine qK ?_;refine bO 5 κ rfl ?_;intro K M;refine aY rfl ?_;try simp only [dD]
       refine b_ (.tmp 2) (.tmp 116) rfl rfl rfl (aF YH.o GD) jo rfl rfl ?_;intro w7 r7 g7;refine ψ M (fun _=>(jP (bJ (aF RX.o GD) g7 (by have:=H9.o.a_;intro e9;have:=bI e9;omega))).2) ?_;try simp only [bT]
       refine bO 6 κ rfl ?_;intro K M;try simp only [dD]
       go_simp;refine ψ M (fun h=>absurd rfl h) ?_;try simp only [bT]
       refine bW κ ?_;obtain⟨p0,p1,p2,p3⟩:=aT r7;go_wp2;refine dw (v:=.tuple #[.agg #[J 0,J 0,J 0,()],J (2)]) (by simp [results,Tryz.results80,go_sem,p0,p1,p2,p3]) rfl ?_;rw [HE.o];exact⟨_,rfl,oI _,(GX.o.trans GD).grown g7 (fun q O=>by simp at O;omega)⟩
     ·have HE:Hid (readB b=(ms0,eN)):=I (by
       rw [T2.o];unfold Bh;simp only;rw [aV (by simp [hN])];simp [hN])
      have dZ:(eN==0)=false:=by simp [hN]
      have gB:(eN !=0)=true:=by simp [hN]
      have RX:=I RX0.o;have YH:=I T3.o;have GX:=I GX0.o;clear hN;go_wp2_with fail
      clear q0 q1;refine dH (fun w'=>w'.cell? ⟨B6,1,none⟩=some (J (eN))) 6 κ ?_;obtain⟨wd,hWd⟩:=χ wx.drew;rw [<-hWd];have GD:aK wx wd:=by rw [hWd];exact(aG _).drew
      have zD:wx.heap.size=wd.heap.size:=by rw [hWd];rfl
      clear hWd zD;refine qJ [0,1,2,3,4] 9 κ (fun _ _ _ _ _ h=>h) ((jP (aF RX.o GD)).2) ?_;repeat (refine PH (v:=?_) rfl ρ ?_ ?_;rotate_left;(· (intro w' hSw;(try dsimp only at hSw);go_simp<;>with_reducible rfl));try simp only [bT])
      refine qK ?_;refine bO 5 κ rfl ?_;intro K M;refine aY rfl ?_;try simp only [dD]
      refine b_ (.tmp 2) (.tmp 116) rfl rfl rfl (aF YH.o GD) jo rfl rfl ?_;intro w7 r7 g7;refine ψ M (fun _=>(jP (bJ (aF RX.o GD) g7 (by have:=H9.o.a_;intro e9;have:=bI e9;omega))).2) ?_;try simp only [bT]
      refine bO 6 κ rfl ?_;intro K M;try simp only [dD]
      go_simp;refine ψ M (fun h=>absurd rfl h) ?_;try simp only [bT]
      refine bW κ ?_;obtain⟨p0,p1,p2,p3⟩:=aT r7;go_wp2;refine dw (v:=.tuple #[.agg #[J 0,J 0,J 0,()],J (eN)]) (by simp [results,Tryz.results80,go_sem,p0,p1,p2,p3]) rfl ?_;rw [HE.o];exact⟨_,rfl,oI _,(GX.o.trans GD).grown g7 (fun q O=>by simp at O;omega)⟩
  ·obtain rfl:n=0:=hnz he3
   obtain⟨l3,e3⟩:=s3;simp only at he3 q1;have HE:Hid (readB b=(ms0,e3)):=I (by
    rw [OA.o,aV (by simp [he3])];simp only [Int.toNat_zero,Nat.mul_zero,h_];unfold Bh;simp only;rw [aV (by simp [he3])];simp [he3])
   have dZ:(e3==0)=false:=by simp [he3]
   have gB:(e3 !=0)=true:=by simp [he3]
   have R9:=I H9.o.DQ;clear he3 hnz hnb OA;go_wp2;go_loopw [70] (fun i wr=>i=J 0/\wr=w9) (fun _ _=>0)
   case atStart=>exact⟨rfl,rfl⟩
   case round=>
    obtain⟨rfl,hwr⟩:=hrel;obtain⟨wx,rfl⟩:=χ wr;have R9x:=I (show aR wx B6 w.cell? (l3,e3) by rw [hwr];exact R9.o);have YH:Hid (wx.heap[w.heap.size]? =some (.cells #[J 0,J 0,J 0,()] 85 (0,0))):=I (by rw [hwr];exact R2.o);have GX:=I (show aK w wx by rw [hwr];exact G9.o);clear hwr q0 q1 z6;obtain⟨rb,rd,hrow,-⟩:=R9x.o;simp only at hrow;have RX:=I hrow;obtain⟨q0,q1⟩:=jP hrow;have z6x:B6<wx.heap.size:=(γ hrow);clear hrow;go_wp2_with fail
    clear q0 q1;refine dH (fun w'=>w'.cell? ⟨B6,1,none⟩=some (J (e3))) 6 κ ?_;obtain⟨wd,hWd⟩:=χ wx.drew;rw [<-hWd];have GD:aK wx wd:=by rw [hWd];exact(aG _).drew
    have zD:wx.heap.size=wd.heap.size:=by rw [hWd];rfl
    clear hWd zD;refine qJ [0,1,2,3,4] 9 κ (fun _ _ _ _ _ h=>h) ((jP (aF RX.o GD)).2) ?_;repeat (refine PH (v:=?_) rfl ρ ?_ ?_;rotate_left;(· (intro w' hSw;(try dsimp only at hSw);go_simp<;>with_reducible rfl));try simp only [bT])
    refine qK ?_;refine bO 5 κ rfl ?_;intro K M;refine aY rfl ?_;try simp only [dD]
    refine b_ (.tmp 2) (.tmp 116) rfl rfl rfl (aF YH.o GD) jo rfl rfl ?_;intro w7 r7 g7;refine ψ M (fun _=>(jP (bJ (aF RX.o GD) g7 (by have:=H9.o.a_;intro e9;have:=bI e9;omega))).2) ?_;try simp only [bT]
    refine bO 6 κ rfl ?_;intro K M;try simp only [dD]
    go_simp;refine ψ M (fun h=>absurd rfl h) ?_;try simp only [bT]
    refine bW κ ?_;obtain⟨p0,p1,p2,p3⟩:=aT r7;go_wp2;refine dw (v:=.tuple #[.agg #[J 0,J 0,J 0,()],J (e3)]) (by simp [results,Tryz.results80,go_sem,p0,p1,p2,p3]) rfl ?_;rw [HE.o];exact⟨_,rfl,oI _,(GX.o.trans GD).grown g7 (fun q O=>by simp at O;omega)⟩
 ·have HE:Hid (readB b=(ms0,7)):=I (by
   unfold readB;rw [aV YF.o,aV (by rw [uM.o];simpa using ht)])
  by_cases hxx:(x:Int)=(s:Int)/256
  ·have hyy:¬(y:Int)=(s:Int) % 256:=fun h=>ht (hsx.1 ⟨hxx,h⟩)
   have hbx:((x:Int) !=(s:Int)/256)=false:=by simp [hxx]
   have hby:((y:Int) !=(s:Int) % 256)=true:=by simp [hyy]
   clear hsx uM ht hxx hyy;go_enter Tryz.func80,Tryz.ntmps80;go_wp2_with fail
   refine(YE.o _ ((aG _).alloc _)).mono ?_;rintro e0 w1 ⟨rfl,dZ⟩;have R2:=I (aF (bn w (.cells #[J 0,J 0,J 0,()] 85)) dZ);have G1:=I (((aG w).alloc (.cells #[J 0,J 0,J 0,()] 85)).trans dZ);replace c0:=G1.o.sub _ _ c0;replace cx:=G1.o.sub _ _ cx;replace cy:=G1.o.sub _ _ cy;have z2:w.heap.size<w1:=(γ R2.o);clear dZ;go_wp2_with (first|(refine aQ rfl (.tmp 2) (.tmp 38) rfl rfl rfl R2.o jo rfl rfl ?_))
   intro w7 r7 g7;obtain⟨p0,p1,p2,p3⟩:=aT r7;go_wp2;refine dw (v:=.tuple #[.agg #[J 0,J 0,J 0,()],J 7]) (by simp [results,Tryz.results80,go_sem,p0,p1,p2,p3]) rfl ?_;rw [HE.o];exact⟨_,rfl,oI _,G1.o.grown g7 (fun q O=>by simp at O;omega)⟩
  ·have hbx:((x:Int) !=(s:Int)/256)=true:=by simp [hxx]
   clear hsx uM ht hxx;go_enter Tryz.func80,Tryz.ntmps80;go_wp2_with fail
   refine(YE.o _ ((aG _).alloc _)).mono ?_;rintro e0 w1 ⟨rfl,dZ⟩;have R2:=I (aF (bn w (.cells #[J 0,J 0,J 0,()] 85)) dZ);have G1:=I (((aG w).alloc (.cells #[J 0,J 0,J 0,()] 85)).trans dZ);replace c0:=G1.o.sub _ _ c0;replace cx:=G1.o.sub _ _ cx;replace cy:=G1.o.sub _ _ cy;have z2:w.heap.size<w1:=(γ R2.o);clear dZ;go_wp2_with (first|(refine aQ rfl (.tmp 2) (.tmp 38) rfl rfl rfl R2.o jo rfl rfl ?_))
   intro w7 r7 g7;obtain⟨p0,p1,p2,p3⟩:=aT r7;go_wp2;refine dw (v:=.tuple #[.agg #[J 0,J 0,J 0,()],J 7]) (by simp [results,Tryz.results80,go_sem,p0,p1,p2,p3]) rfl ?_;rw [HE.o];exact⟨_,rfl,oI _,G1.o.grown g7 (fun q O=>by simp at O;omega)⟩
theorem QL {α:Type} {T:Ty α} {P:Program} {ty:TypeId} {c:CM} {w:World} {base e g cap i:Nat} {l:List α} {cells:Array Value} {x:α}
  (bU:bK T c w base e (U (some ⟨g,0,none⟩) l.length cap) l) (hi:i<l.length) (hsz:(P.info? ty).map (·.size)=some cells.size) (hR:T.R c cells.toList x) (N:cells.toList.all (·.oneCell')=true):
  ∃w',(storeVar ty ⟨g,i*T.size,none⟩ (.agg cells)).run P w=.ok () w'/\bK T c w' base e (U (some ⟨g,0,none⟩) l.length cap) (l.set i x)/\w.grownBy w' (some g):=by
 obtain⟨css,⟨hl,⟨h',_⟩|⟨g',cap',cur,h',hb,hg,hnc,hcm,hcs,htake⟩⟩,Y,h3⟩:=bU
 ·simp at h'
 simp only [Value.slice.injEq,Option.some.injEq,Addr.mk.injEq,and_true,true_and] at h';obtain⟨rfl,rfl⟩:=h';have hcl:=nN Y h3;have hlen:cells.toList.length=T.size:=T.len hR;have hle:i*T.size+T.size<=l.length*T.size:=by
  have:=Nat.mul_le_mul_right T.size (show i+1<=l.length by omega);rw [Nat.add_mul] at this;omega
 have hle2:l.length*T.size<=cap*T.size:=Nat.mul_le_mul_right _ hnc;have hr:=run_storeCells_at (P:=P) g (i*T.size) e cells.toList 0 cur w hg (by rw [hlen];omega) (fun v hv=>by simpa using List.all_eq_true.1 N v hv);have e9:(l.set i x).length=l.length:=List.length_set;have e1:css.flatten.length=l.length*T.size:=by rw [ou css hcl,Y]
 have e2:cur.toList.take (i*T.size)=css.flatten.take (i*T.size):=by rw [<-htake,List.take_take,Nat.min_eq_left V]
 have e3:(cur.toList.drop (i*T.size+T.size)).take (l.length*T.size - (i*T.size+T.size))=css.flatten.drop (i*T.size+T.size):=by
  rw [<-htake,List.drop_take]
 have e4:(css.flatten.take (i*T.size)).length=i*T.size:=by rw [List.length_take,e1,Nat.min_eq_left V]
 have hown':(w.setRow g (cur.toList.take (i*T.size+0)++cells.toList++cur.toList.drop (i*T.size+0+cells.toList.length)).toArray).ownsRow base e T.size (U (some ⟨g,0,none⟩) l.length cap) l.length (css.set i cells.toList).flatten:=by
  refine⟨?_,.inr ⟨g,cap,_,rfl,hb,setRow_heap w g cur _ e _ hg,hnc,hcm,?_,?_⟩⟩
  ·rw [ou _ (fun cs hc=>by rcases List.mem_or_eq_of_mem_set hc with h|h;exact hcl cs h;rw [h];exact hlen)]
   simp [Y]
  ·rw [List.size_toArray,List.length_append,List.length_append,List.length_take,List.length_drop,hlen,Array.length_toList,hcs];omega
  ·rw [hlen,Nat.add_zero,e2]
   simp only;rw [List.take_append,eG (by rw [List.length_append,e4,hlen];exact hle),List.length_append,e4,hlen,e3,ng css i hcl,show i*T.size+T.size=(i+1)*T.size by rw [Nat.add_mul];omega,qI css (i+1) hcl,
    List.set_eq_take_append_cons_drop,bC V]
   simp
 refine⟨w.setRow g (cur.toList.take (i*T.size+0)++cells.toList++cur.toList.drop (i*T.size+0+cells.toList.length)).toArray,?_,⟨css.set i cells.toList,by rw [e9];exact hown',by simp [Y],fun j cs y ej ey=>?_⟩,⟨rfl,rfl,rfl,by simp [World.setRow],fun k hk hne=>?_⟩⟩
 ·cases O:P.info? ty with
  |none=>simp [O] at hsz
  |some q=>
   have hs:cells.size=q.size:=by simp [O] at hsz;omega
   simp [storeVar,sizeOf,typeInfo,O,Value.cells,hs] at hr ⊢;exact hr
 ·by_cases hj:j=i
  ·subst hj
   rw [List.getElem?_set_self V] at ej ey;obtain rfl:=bI ej;obtain rfl:=bI ey;exact hR
  ·rw [List.getElem?_set_ne (fun e=>hj e.symm)] at ej ey
   exact h3 j cs y ej ey
 ·simp only [World.setRow]
  rw [Array.getElem?_modify];rw [aV (fun e=>hne (by rw [e]))]
theorem xG {α:Type} {T:Ty α} {P:Program} {ty:TypeId} {c:CM} {w:World} {o:Oper} {a:Act} {K:Act->World->Prop} {Q:Exit->Act->World->Prop} (d s:Operand) (ho:o.op=.store ty d s)
  {base e g cap i p:Nat} {l:List α} {cells:Array Value} {x:α} (hd:a.eval d=.pointer (some ⟨g,p,none⟩)) (hs:a.eval s=.agg cells) (hp:p=i*T.size)
  (bU:bK T c w base e (U (some ⟨g,0,none⟩) l.length cap) l) (hi:i<l.length) (hsz:(P.info? ty).map (·.size)=some cells.size) (hR:T.R c cells.toList x) (N:cells.toList.all (·.oneCell')=true)
  (h:∀w',bK T c w' base e (U (some ⟨g,0,none⟩) l.length cap) (l.set i x)->w.grownBy w' (some g)->K (a.put o.dst undef) w'):o.wp P a w K Q:=by
 subst hp;obtain⟨w',hr,Y,h3⟩:=QL (P:=P) (ty:=ty) bU hi hsz hR N;unfold Oper.wp execOp;simp only [ho,hd,hs,Instr.storeAt,Instr.sureAddr,Sem.run_bind,Sem.run_pure,Result.andThen_ok,hr];exact h _ Y h3
theorem JM {α:Type} {T:Ty α} {P:Program} {ty:TypeId} {c:CM} {w:World} {ops:Array Oper} {rest:List Oper} {o:Oper} {a:Act} {Q:Exit->Act->World->Prop} (hgd:o.guard=none) (d s:Operand) (ho:o.op=.store ty d s)
  {base e g cap i p:Nat} {l:List α} {cells:Array Value} {x:α} (hd:a.eval d=.pointer (some ⟨g,p,none⟩)) (hs:a.eval s=.agg cells) (hp:p=i*T.size)
  (bU:bK T c w base e (U (some ⟨g,0,none⟩) l.length cap) l) (hi:i<l.length) (hsz:(P.info? ty).map (·.size)=some cells.size) (hR:T.R c cells.toList x) (N:cells.toList.all (·.oneCell')=true)
  (h:∀w',bK T c w' base e (U (some ⟨g,0,none⟩) l.length cap) (l.set i x)->w.grownBy w' (some g)->wpList P ops Q rest (a.put o.dst undef) w'):wpList P ops Q (o::rest) a w:=
 wpList_plain hgd fun _ hK=>xG d s ho hd hs hp bU hi hsz hR N fun w' a b=>hK _ _ (h w' a b)
def WZ (a b:List Pt):Prop:=∀p∈a,∀q∈b,¬(p.h=q.h/\p.k=q.k)
theorem WZ.symm {a b:List Pt} (h:WZ a b):WZ b a:=fun p hp q O e=>h q O p hp ⟨e.1.symm,e.2.symm⟩
def QM {α β:Type} (R:α->β->Prop):List α->List β->Prop
 | [],[]=>True
 |a::l,b::m=>R a b/\QM R l m
 |_,_=>False
theorem QM.len {α β:Type} {R:α->β->Prop}:∀{l:List α} {m:List β},QM R l m->l.length=m.length
 | [],[],_=>rfl
 |_::_,_::_,h=>by rw [List.length_cons,List.length_cons,QM.len h.2]
 | [],_::_,h=>h.elim
 |_::_,[],h=>h.elim
theorem QM.get {α β:Type} {R:α->β->Prop}:∀{l:List α} {m:List β},QM R l m->∀(i:Nat) (a:α) (b:β),l[i]? =some a->m[i]? =some b->R a b
 | [],[],_,i,a,b,N,_=>by simp at N
 |_::_,_::_,h,0,a,b,N,Y=>by
  simp only [List.getElem?_cons_zero,Option.some.injEq] at N Y;subst N Y;exact h.1
 |_::_,_::_,h,i+1,a,b,N,Y=>QM.get h.2 i a b (by simpa using N) (by simpa using Y)
 | [],_::_,h,_,_,_,_,_=>h.elim
 |_::_,[],h,_,_,_,_,_=>h.elim
theorem bK.lit {α:Type} {T:Ty α} {c:CM} {base e:Nat} (w:World) {cs:Array Value} (css:List (List Value)) {l:List α} {g n:Nat} (hg:g=w.heap.size) (hn:n=l.length) (hb:base<=w.heap.size) (hm:l.length<=maxLen) (hcs:cs.toList=css.flatten) (hR:QM (T.R c) css l):bK T c (w.alloc (.cells cs e)) base e (U (some ⟨g,0,none⟩) n n) l:=by
 subst hg hn;have hl:=hR.len;have h3:=hR.get;refine⟨css,?_,hl,h3⟩;have h:=World.ownsRow_lit (base:=base) (e:=e) (size:=T.size) w cs l.length hb hm (by rw [<-Array.length_toList,hcs,ou css (nN hl h3),hl]);rw [hcs] at h;exact h
theorem Sl.lit {α:Type} {T:Ty α} {e:Nat} (w:World) {W:World} {cs:Array Value} (css:List (List Value)) {l:List α} {g n:Nat} (h0:0<T.size) (hW:aK (w.alloc (.cells cs e)) W) (hg:g=w.heap.size) (hn:n=l.length) (hm:l.length<=maxLen) (hcs:cs.toList=css.flatten) (hR:QM (T.R w.cell?) css l):Sl T W.cell? (U (some ⟨g,0,none⟩) n n) l:=
 ((bK.lit (base:=w.heap.size) (e:=e) w css hg hn (Nat.le_refl _) hm hcs hR).sl h0 ((aG _).alloc _).sub).mono hW.sub
theorem LZ {m:Ms} (h:cZ m=0):0<=m.aX/\m.aX<256:=by
 have:=(CG.1 h).aX;omega
theorem Pq {m:Ms} (h:cZ m=0):m.aH.length<=4:=(CG.1 h).len
def kC (l:List (List UInt8)) (ms:List Ms):List (List UInt8):=l++(ms.take (24 - l.length)).map dh
theorem Pv (l:List (List UInt8)):kC l []=l:=by simp [kC]
theorem Px (l:List (List UInt8)) (ms:List Ms):(kC l ms).length=l.length+min (24 - l.length) ms.length:=by simp [kC]
theorem L6 {l:List (List UInt8)} {ms:List Ms} {k:Nat} (h:k<ms.length):kC l (ms.take (k+1))=if(kC l (ms.take k)).length<24 then kC l (ms.take k)++ [dh ms[k]] else kC l (ms.take k):=by
 have hl:=Px l (ms.take k);rw [List.length_take] at hl;by_cases hc:(kC l (ms.take k)).length<24
 ·rw [bC hc]
  unfold kC;rw [List.take_take,List.take_take,Nat.min_eq_right V,Nat.min_eq_right V,List.take_succ_eq_append_getElem h,List.map_append,List.append_assoc];rfl
 ·rw [aV hc]
  unfold kC;rw [List.take_take,List.take_take,Nat.min_eq_left V,Nat.min_eq_left V]
theorem Bj {v vm:Value} {l:List (List UInt8)} {ms:List Ms} (w:World) (hv:yS w.cell? v l) (hms:Mss w.cell? vm ms) (hr:∀m∈ms,cZ m=0) (hm:l.length*24<=140737488355328) (hp:∀b∈l,b.length<=140737488355328):
  Calls Tryz.prog 48 #[v,vm] w fun e w'=>∃v',e=.returned v'/\bK Ty.bs (fr w w' [v'.ownBlock]) w' w.heap.size 97 v' (kC l ms)/\aK w w':=by
 have HR:=I hr;have L8:=I (J5 w hv hm hp);obtain⟨am,cm,rfl,N,Y,-,hel⟩:=hms;unfold maxLen at Y;clear hv hr hm hp;go_enter Tryz.func48,Tryz.ntmps48;go_wp2_with fail
 refine L8.o.mono ?_;rintro e w1 ⟨v1,rfl,qM,dZ⟩;have xA:=I qM;have oW:=I dZ;obtain⟨a1,k1,rfl⟩:=qM.form;clear qM dZ;go_wp2;go_loopw [5,12] (fun bv i wr=>∃k:Nat,k<=ms.length/\i=J k/\aK w wr/\bK Ty.bs (fr w wr [bv.ownBlock]) wr w.heap.size 97 bv (kC l (ms.take k))) (fun _ i _=>ms.length - (intOf i).toNat)
 case atStart=>exact⟨0,V,rfl,oW.o,by rw [List.take_zero,Pv];exact xA.o⟩
 case round=>
  obtain⟨k,hk',rfl,hb,bU⟩:=hrel;obtain⟨av,cv,rfl⟩:=bU.form;by_cases hlt:k<ms.length
  ·obtain⟨b,o,vp,rfl,c0,c1,c2,c3,i0,i1,i2,hP⟩:=Mss.at_ hel k hlt
   obtain⟨ap,cp,rfl,-⟩:=id hP;replace c0:=hb.sub _ _ c0;replace c1:=hb.sub _ _ c1;replace c2:=hb.sub _ _ c2;replace c3:=hb.sub _ _ c3;have hw:=HR.o ms[k] (List.getElem_mem _);have HST:=I (L6 (l:=l) hlt);have HBY:=I (fun(W:World) (hW:aK wr W)=>WW (m:=ms[k]) W ⟨_,rfl,_,rfl,i0,i1,i2,hP.mono (hb.trans hW).sub⟩ (LZ hw) (Pq hw));have dX:=I bU;have HB:=I hb;clear hel hP hw bU i0 i1 i2 hb;generalize ms[k]=m at*;generalize kC l (ms.take k)=lk at*;by_cases zP:lk.length<24
   ·have D6:=I (show kC l (ms.take (k+1))=lk++ [dh m] by rw [HST.o,bC zP])
    clear HST;go_wp2_with fail
    refine(HBY.o _ ((aG _).alloc _)).mono ?_;rintro e w2 ⟨v2,rfl,wS,gB⟩;obtain⟨a2,uz,rfl⟩:=dG wS;have pI:=I wS;have jq:=I (((aG wr).alloc (.cells #[J m.aX,J m.aJ,J m.aU,U ap m.aH.length cp] 85)).trans gB);clear wS gB;generalize dh m=r at*;go_wp2_with (first|(at_builtin;refine cO (c:=fr w (w2.alloc (.cells #[U a2 r.length uz] 97)) [(Value.slice av lk.length cv).ownBlock]) (base:=w.heap.size) (l:=lk) (m:=[r]) oq rfl (lW Ty.byte) ε rfl (.tmp 19) (.tmp 22) rfl rfl ?own rfl (Src.dU (T:=Ty.bs) (x:=r) (cs:=#[U a2 r.length uz]) ?d0 _ _ ?d1) ?d2 ?d3 ?_))
    case own=>exact(dX.o.mono (fH (jq.o.alloc _))).grow (jq.o.alloc _)
    case d0=>
     refine⟨_,rfl,?_⟩;have hlt2:=dX.o.lt;refine QJ (w1:=wr.alloc (.cells #[J m.aX,J m.aJ,J m.aU,U ap m.aH.length cp] 85)) ?_ (by have:=HB.o.size;simp;omega) ?_
     ·exact kE pI.o ((aG _).alloc _)
     ·intro q O
      simp only [List.mem_singleton];intro e;have:=(hlt2 q e.symm).2;simp at O;omega
    case d1=>simp
    case d2=>simp;omega
    case d3=>have:=(jq.o.alloc (.cells #[U a2 r.length uz] 97)).size;have:=HB.o.size;omega
    intro a5 c5 w5 xC uG iY;have Yq:aK w w5:=dI (w0:=w) (HB.o.trans (jq.o.alloc _)) uG (fun q O=>(dX.o.lt q O).1);have oQ:=I (xC.mono (uy uG (iY.imp_right fun⟨g,e,hge⟩=>⟨g,e,by simpa using hge⟩)));have wW:=I Yq;clear xC uG iY Yq;go_wp2;go_roundw
    case rel=>exact⟨k+1,V,by go_num,wW.o,by rw [D6.o];exact oQ.o⟩
    case measure=>simp [intOf];omega
   ·have D6:=I (show kC l (ms.take (k+1))=lk by rw [HST.o,aV zP])
    clear HST;go_wp2;go_roundw
    case rel=>exact⟨k+1,V,by go_num,HB.o.alloc _,by rw [D6.o];exact(dX.o.mono (fH ((aG _).alloc _))).grow ((aG _).alloc _)⟩
    case measure=>simp [intOf];omega
  ·clear hel
   go_wp2;go_ret;have h9:=bU;rw [eG V] at h9;rw [eG V];exact⟨_,rfl,h9,hb⟩
def vP (l:List (List UInt8)) (n:Int):List (List UInt8)×Int:=
 if 0<=n/\n<l.length then(if l.length<24 then l++ [l.getD n.toNat []] else l,0) else(l,6)
theorem bN {v:Value} {l:List (List UInt8)} {n:Int} (w:World) (hv:yS w.cell? v l) (hm:l.length*24<=140737488355328) (hp:∀b∈l,b.length<=140737488355328):
  Calls Tryz.prog 44 #[v,J n] w fun e w'=>∃v',e=.returned (.tuple #[v',J (vP l n).2])/\bK Ty.bs (fr w w' [v'.ownBlock]) w' w.heap.size 97 v' (vP l n).1/\aK w w':=by
 have L8:=I (J5 w hv hm hp);have HP:=I hp;obtain⟨a,cap,rfl,N,Y,-,hel⟩:=hv;unfold maxLen at Y;clear hm hp;by_cases hin:0<=n/\n<l.length
 ·obtain⟨i,rfl⟩:∃i:Nat,n=i:=⟨n.toNat,V⟩
  have hi:i<l.length:=by omega
  obtain⟨b,o,vp,rfl,c0,hP⟩:=yS.at_ hel i hi;obtain⟨ap,cp,rfl,-⟩:=id hP;have hpl:=HP.o l[i] (List.getElem_mem _);have hgd:l.getD i []=l[i]:=by rw [List.getD_eq_getElem?_getD,dM hi];rfl
  have HE:=I (show vP l i=(if l.length<24 then l++ [l[i]] else l,0) by unfold vP;rw [bC hin,Int.toNat_natCast,hgd]);have Je:=I (fun(W:World) (hW:aK w W)=>KY W (hP.mono hW.sub) V);clear hel hP hpl hgd hin;generalize l[i]=r at*;by_cases zP:l.length<24
  ·have lC:=I (show vP l i=(l++ [r],0) by rw [HE.o,bC zP])
   clear HE HP;go_enter Tryz.func44,Tryz.ntmps44;go_wp2_with fail
   refine L8.o.mono ?_;rintro e w1 ⟨v1,rfl,bU,hb⟩;obtain⟨av,cv,rfl⟩:=bU.form;have dX:=I bU;have HB:=I hb;replace c0:=hb.sub _ _ c0;clear bU hb;go_wp2_with fail
   refine(Je.o _ HB.o).mono ?_;rintro e w2 ⟨v2,rfl,wS,gB⟩;obtain⟨a2,uz,rfl⟩:=dG wS;have pI:=I wS;have jq:=I gB;clear wS gB c0;go_wp2_with (first|(at_builtin;refine cO (c:=fr w (w2.alloc (.cells #[U a2 r.length uz] 97)) [(Value.slice av l.length cv).ownBlock]) (base:=w.heap.size) (l:=l) (m:=[r]) oq rfl (lW Ty.byte) ε rfl (.tmp 21) (.tmp 27) rfl rfl ?own rfl (Src.dU (T:=Ty.bs) (x:=r) (cs:=#[U a2 r.length uz]) ?d0 _ _ ?d1) ?d2 ?d3 ?_))
   case own=>exact(dX.o.mono (fH (jq.o.alloc _))).grow (jq.o.alloc _)
   case d0=>
    refine⟨_,rfl,?_⟩;have hlt2:=dX.o.lt;refine QJ (w1:=w1) ?_ HB.o.size ?_
    ·exact kE pI.o ((aG _).alloc _)
    ·intro q O
     simp only [List.mem_singleton];intro e;have:=(hlt2 q e.symm).2;omega
   case d1=>simp
   case d2=>simp;omega
   case d3=>have:=(jq.o.alloc (.cells #[U a2 r.length uz] 97)).size;have:=HB.o.size;omega
   intro a5 c5 w5 xC uG iY;have Yq:aK w w5:=dI (w0:=w) (HB.o.trans (jq.o.alloc _)) uG (fun q O=>(dX.o.lt q O).1);have oQ:=I (xC.mono (uy uG (iY.imp_right fun⟨g,e,hge⟩=>⟨g,e,by simpa using hge⟩)));have wW:=I Yq;clear xC uG iY Yq;go_wp2;refine dw (v:=.tuple #[U a5 (l.length+ [r].length) c5,J 0]) (by simp [results,Tryz.results44,go_sem]) rfl ?_;rw [lC.o];exact⟨_,rfl,oQ.o,wW.o⟩
  ·have lC:=I (show vP l i=(l,0) by rw [HE.o,aV zP])
   clear HE HP;go_enter Tryz.func44,Tryz.ntmps44;go_wp2_with fail
   refine L8.o.mono ?_;rintro e w1 ⟨v1,rfl,bU,hb⟩;obtain⟨av,cv,rfl⟩:=bU.form;have dX:=I bU;have HB:=I hb;clear bU hb;go_wp2;refine dw (v:=.tuple #[U av l.length cv,J 0]) (by simp [results,Tryz.results44,go_sem]) rfl ?_;rw [lC.o];exact⟨_,rfl,dX.o,HB.o⟩
 ·have HE:=I (show vP l n=(l,6) by unfold vP;rw [aV hin])
  have hcase:n<0∨(0<=n/\(l.length:Int)<=n):=by omega
  clear hin hel HP;rcases hcase with h0|⟨h0,h9⟩
  all_goals
   go_enter Tryz.func44,Tryz.ntmps44;go_wp2_with fail
   refine L8.o.mono ?_;rintro e w1 ⟨v1,rfl,bU,hb⟩;obtain⟨av,cv,rfl⟩:=bU.form;have dX:=I bU;have HB:=I hb;clear bU hb;go_wp2;refine dw (v:=.tuple #[U av l.length cv,J 6]) (by simp [results,Tryz.results44,go_sem]) rfl ?_;rw [HE.o];exact⟨_,rfl,dX.o,HB.o⟩
theorem TQ {w:World} {o:Oper} {a:Act} {K:Act->World->Prop} {Q:Exit->Act->World->Prop} (s x:Operand)
  (ho:o.op=.call { callee:=.builtin .append,args:=#[s,x],argTypes:=#[97,97] })
  {base base':Nat} {v v2:Value} {b b2:List UInt8} (hs:a.eval s=v) (bU:OwnB w base v b) (hbase:base<=w.heap.size) (Z:a.eval x=v2) (Y:OwnB w base' v2 b2)
  (hlen:b.length+b2.length<=140737488355328)
  (h:∀v' w',OwnB w' base v' (b++b2)->mF w w' v v'->K (a.put o.dst v') w'):o.wp Tryz.prog a w K Q:=by
 obtain⟨a2,c2,rfl⟩:=dG Y;obtain⟨e1,e2⟩:=Qn Y;refine vH ER s x ho hs bU a2 b2.length c2 (b2.flatMap jf) Z e1 (qG (size:=1) (f:=jf) (fun _=>rfl) b2) e2 (yx one_byte b2) (by unfold maxLen;omega) V hbase fun a' c' w' hA=>?_;have N:=hA.own;rw [Lu] at N;refine h _ w' ?_ ⟨hA.grown,hA.blk⟩;have e:b.length+b2.length=(b++b2).length:=by simp
 rw [e] at N ⊢;exact N
theorem A1s {w W:World} {base:Nat} {k:Int} {x:UInt8} (hk:k=(x.toNat:Int)) (hb:base<=w.heap.size) (hW:W=w.alloc (.cells #[.int .u8 k] 5)):OwnB W base (U (some ⟨w,0,none⟩) 1 1) [x]:=by
 subst hW hk;exact World.ownsRow_lit (base:=base) (e:=5) (size:=1) w #[.int .u8 x.toNat] 1 hb ε rfl
theorem OwnB.low {w:World} {base base':Nat} {v:Value} {b:List UInt8} (h:OwnB w base v b) (hb:base'<=base):OwnB w base' v b:=by
 obtain⟨hl,⟨he,hn⟩|⟨g,cap,cur,he,hg,hr⟩⟩:=h
 ·exact⟨hl,.inl ⟨he,hn⟩⟩
 ·exact⟨hl,.inr ⟨g,cap,cur,he,Nat.le_trans hb hg,hr⟩⟩
theorem bR {v:Value} {m:Ms} (w:World) (hv:Of Ty.ms w.cell? v m) (hk:0<=m.aX/\m.aX<256) (hl:m.aH.length<=4):
  Calls Tryz.prog 91 #[v] w fun e w'=>∃v',e=.returned v'/\OwnB w' w.heap.size v' (dh m)/\aK w w':=by
 obtain⟨ap,cp,rfl⟩:=hv.ny;obtain⟨hp,ik,id',ih⟩:=hv.yE;have hok:=pX.ok hp;have HKB:Hid (IntKind.u8.wrap m.aX=((UInt8.ofNat m.aX.toNat).toNat:Int)):=I (by rw [IntWalk.u8_in _ V];exact Pm hk);have HI1:=I id';have HI2:=I ih;have HI3:Hid (I64 (m.aH.length:Int)):=I (ku V V);have HN1:=I (lF (fJ id').1 (fJ id').2);have YI:=I (lF (fJ ih).1 (fJ ih).2);have Py:=I (lF (fJ HI3.o).1 (fJ HI3.o).2);have pU:=I (fun k=>qX (l:=m.aH.take k) fun p hp=>hok p (List.mem_of_mem_take hp));have HM:Hid ((([UInt8.ofNat m.aX.toNat]++jC m.aJ)++jC m.aU)++jC (m.aH.length:Int)++m.aH.flatMap gy=iF m):=I (by unfold iF;simp);have nH:=I hp;obtain⟨Gj,SG⟩:=hk;clear hv ik id' ih hok hp;go_enter Tryz.func91,Tryz.ntmps91;go_upto_region 1 with fail
 obtain⟨wa,fZ⟩:=χ (w.alloc (.cells #[J m.aX,J m.aJ,J m.aU,U ap m.aH.length cp] 85));have RA:Hid (wa.heap[w.heap.size]? =some (.cells #[J m.aX,J m.aJ,J m.aU,U ap m.aH.length cp] 85 (0,0))):=I (by rw [fZ];exact bn _ _);have GA:Hid (aK w wa):=I (by rw [fZ];exact(aG w).alloc _);have ZA:Hid (wa.heap.size=w.heap.size+1):=I (by rw [fZ];simp);rw [<-fZ];clear fZ;go_cut [3] from 15 (fun bv wc=>OwnB wc (w.heap.size+1) bv ([UInt8.ofNat m.aX.toNat]++jC m.aJ)/\aK w wc/\wc.heap[w.heap.size]? =some (.cells #[J m.aX,J m.aJ,J m.aU,U ap m.aH.length cp] 85 (0,0)))
 case first=>
  refine dH (fun w'=>w'.cell? ⟨w,0,none⟩=some (J m.aX)/\w'.cell? ⟨w,1,none⟩=some (J m.aJ)) 8 κ ?_;obtain⟨wd,hWd⟩:=χ wa.drew;rw [<-hWd];have GD:aK wa wd:=by rw [hWd];exact(aG _).drew
  have zD:wa.heap.size=wd.heap.size:=by rw [hWd];rfl
  clear hWd zD;refine qJ [0,1,2,4,5] 12 κ (fun _ _ _ _ _ h=>h) (⟨(aT (aF RA.o GD)).1,(aT (aF RA.o GD)).2.1⟩) ?_;repeat (refine jY ?_;try simp only [bT])
  refine qK ?_;refine bP 3 6 κ rfl rfl ?_ ?_
  ·intro K M
   try simp only [dD]
   go_simp;obtain⟨wl,hwl⟩:=χ (wd.alloc (.cells #[.int .u8 (IntKind.u8.wrap m.aX)] 5));have YF:=I (A1s (base:=w.heap.size+1) (k:=IntKind.u8.wrap m.aX) HKB.o (by have:=ZA.o;have:=GD.size;omega) hwl);have GL:aK wd wl:=by rw [hwl];exact(aG _).alloc _
   have RL:=I (aF (aF RA.o GD) GL);have GWL:aK wa wl:=aK.trans GD GL;rw [<-hwl];clear hwl;refine ψ M (fun _=>⟨(aT RL.o).1,(aT RL.o).2.1⟩) ?_;try simp only [bT]
   refine bO 6 κ rfl ?_;intro K M;try simp only [dD]
   go_simp;go_at_call 127
   refine(su _ HI1.o).mono ?_;rintro e wn ⟨vn,rfl,hon,hbn⟩;have L8:=I hon;have RN:=I (aF RL.o hbn);have GN:=I hbn;have GWN:aK wa wn:=aK.trans GWL hbn;clear hon hbn;refine ψ M (fun _=>⟨(aT RN.o).1,(aT RN.o).2.1⟩) ?_;try simp only [bT]
   refine bO 7 κ rfl ?_;intro K M;refine aY rfl ?_;try simp only [dD]
   refine TQ (.tmp 10) (.tmp 13) rfl rfl (OwnB.grow YF.o GN.o) (by have:=ZA.o;have:=GWN.size;omega) rfl L8.o (by have:=HN1.o;simp;omega) ?_;intro v7 w7 yR W_;have zN:=I yR;have R7:=I (W_.row RN.o (fun q O=>by have:=(OwnB.low (OwnB.grow YF.o GN.o) (Nat.le_refl _)).lt q O;omega));have G7:=I (W_.all (GA.o.trans GWN) (fun q O=>by have:=World.ownsRow.lt (OwnB.grow YF.o GN.o) q O;omega));clear yR W_;refine ψ M (fun _=>⟨(aT R7.o).1,(aT R7.o).2.1⟩) ?_;try simp only [bT]
   refine bO 8 κ rfl ?_;intro K M;try simp only [dD]
   go_simp;refine ψ M (fun h=>absurd rfl h) ?_;try simp only [bT]
   refine bW κ ?_;go_wp2;go_meet
   case rel=>exact⟨zN.o,G7.o,R7.o⟩
  ·intro K M
   try simp only [dD]
   go_simp;go_at_call 127
   refine(su _ HI1.o).mono ?_;rintro e wn ⟨vn,rfl,hon,hbn⟩;have L8:=I hon;have RN:=I (aF (aF RA.o GD) hbn);have GN:=I hbn;have GWN:aK wa wn:=aK.trans GD hbn;clear hon hbn;refine ψ M (fun _=>⟨(aT RN.o).1,(aT RN.o).2.1⟩) ?_;try simp only [bT]
   refine bO 3 κ rfl ?_;intro K M;try simp only [dD]
   go_simp;obtain⟨wl,hwl⟩:=χ (wn.alloc (.cells #[.int .u8 (IntKind.u8.wrap m.aX)] 5));have YF:=I (A1s (base:=w.heap.size+1) (k:=IntKind.u8.wrap m.aX) HKB.o (by have:=ZA.o;have:=GWN.size;omega) hwl);have GL:aK wn wl:=by rw [hwl];exact(aG _).alloc _
   have RL:=I (aF RN.o GL);have GWL:aK wa wl:=aK.trans GWN GL;rw [<-hwl];clear hwl;refine ψ M (fun _=>⟨(aT RL.o).1,(aT RL.o).2.1⟩) ?_;try simp only [bT]
   refine bO 7 κ rfl ?_;intro K M;refine aY rfl ?_;try simp only [dD]
   refine TQ (.tmp 10) (.tmp 13) rfl rfl YF.o (by have:=ZA.o;have:=GWL.size;omega) rfl (OwnB.grow L8.o GL) (by have:=HN1.o;simp;omega) ?_;intro v7 w7 yR W_;have zN:=I yR;have R7:=I (W_.row RL.o (fun q O=>by have:=(OwnB.low YF.o (Nat.le_refl _)).lt q O;omega));have G7:=I (W_.all (GA.o.trans GWL) (fun q O=>by have:=World.ownsRow.lt YF.o q O;omega));clear yR W_;refine ψ M (fun _=>⟨(aT R7.o).1,(aT R7.o).2.1⟩) ?_;try simp only [bT]
   refine bO 8 κ rfl ?_;intro K M;try simp only [dD]
   go_simp;refine ψ M (fun h=>absurd rfl h) ?_;try simp only [bT]
   refine bW κ ?_;go_wp2;go_meet
   case rel=>exact⟨zN.o,G7.o,R7.o⟩
 case rest=>
  obtain⟨ho,hg,hr⟩:=hcut;obtain⟨a1,k1,rfl⟩:=dG ho;have HO:=I ho;have HG:=I hg;have HR:=I hr;have HLP:Hid (([UInt8.ofNat m.aX.toNat]++jC m.aJ).length<=11):=I (by have:=HN1.o;simp;omega);clear ho hg hr RA GA ZA HKB HN1 HI1;generalize [UInt8.ofNat m.aX.toNat]++jC m.aJ=pre at*;go_upto_region 2 with fail
  have rE:Hid (∀q:Nat,True):=I (fun _=>trivial);refine dH (fun w'=>w'.cell? ⟨w,2,none⟩=some (J m.aU)/\w'.cell? ⟨w,3,none⟩=some (U ap m.aH.length cp)) 10 κ ?_;obtain⟨wd,hWd⟩:=χ wc.drew;rw [<-hWd];have GD:aK wc wd:=by rw [hWd];exact(aG _).drew
  have zD:wc.heap.size=wd.heap.size:=by rw [hWd];rfl
  clear hWd zD;refine qJ [0,1,2,5,6,7] 14 κ (fun _ _ _ _ _ h=>h) (⟨(aT (aF HR.o GD)).2.2.1,(aT (aF HR.o GD)).2.2.2⟩) ?_;repeat (refine jY ?_;try simp only [bT])
  refine qK ?_;refine bO 3 κ rfl ?_;intro K M;try simp only [dD]
  go_simp;go_at_call 127
  refine(su _ HI2.o).mono ?_;rintro e w3 ⟨v3,rfl,mZ,fB⟩;have n_:=I mZ;have R3:=I (aF (aF HR.o GD) fB);have GG3:=aK.trans (aK.trans HG.o GD) fB;have HP3:=I (OwnB.grow (OwnB.grow HO.o GD) fB);clear mZ fB;refine ψ M (fun _=>⟨(aT R3.o).2.2.1,(aT R3.o).2.2.2⟩) ?_;try simp only [bT]
  refine bO 4 κ rfl ?_;intro K M;refine aY rfl ?_;try simp only [dD]
  refine TQ (.tmp 15) (.tmp 18) rfl rfl HP3.o (γ R3.o) rfl n_.o (by have:=HLP.o;have:=YI.o;omega) ?_;intro v4 w4 vO aL;obtain⟨a4,k4,rfl⟩:=dG vO;have NW:=I vO;have R4:=I (aL.row R3.o (fun q O=>by have:=World.ownsRow.lt HP3.o q O;have:=rE.o q;omega));have GG4:=aL.all GG3 (fun q O=>by have:=World.ownsRow.lt HP3.o q O;omega);clear vO aL;have L0:Hid ((pre++jC m.aU).length<=21):=I (by have:=HLP.o;have:=YI.o;rw [List.length_append];omega);generalize pre++jC m.aU=DA at*;refine ψ M (fun _=>⟨(aT R4.o).2.2.1,(aT R4.o).2.2.2⟩) ?_;try simp only [bT]
  refine bO 8 κ rfl ?_;intro K M;try simp only [dD]
  go_simp;go_at_call 127
  refine(su _ HI3.o).mono ?_;rintro e w8 ⟨v8,rfl,nT,lD⟩;have t_:=I nT;have R8:=I (aF R4.o lD);have GG8:=aK.trans GG4 lD;have EB:=I (OwnB.grow NW.o lD);clear nT lD;refine ψ M (fun _=>⟨(aT R8.o).2.2.1,(aT R8.o).2.2.2⟩) ?_;try simp only [bT]
  refine bO 9 κ rfl ?_;intro K M;refine aY rfl ?_;try simp only [dD]
  refine TQ (.tmp 19) (.tmp 23) rfl rfl EB.o (γ R8.o) rfl t_.o (by have:=L0.o;have:=Py.o;omega) ?_;intro v9 w9 gX Uo;obtain⟨a9,k9,rfl⟩:=dG gX;have jE:=I gX;have R9:=I (Uo.row R8.o (fun q O=>by have:=World.ownsRow.lt EB.o q O;have:=rE.o q;omega));have GG9:=Uo.all GG8 (fun q O=>by have:=World.ownsRow.lt EB.o q O;omega);clear gX Uo;have HL0:Hid ((DA++jC (m.aH.length:Int)).length<=31):=I (by have:=L0.o;have:=Py.o;rw [List.length_append];omega);generalize DA++jC (m.aH.length:Int)=b0 at*;refine ψ M (fun _=>⟨(aT R9.o).2.2.1,(aT R9.o).2.2.2⟩) ?_;try simp only [bT]
  refine bO 10 κ rfl ?_;intro K M;try simp only [dD]
  go_simp;refine ψ M (fun h=>absurd rfl h) ?_;try simp only [bT]
  refine bW κ ?_;have HB0:=I GG9;obtain⟨Oo,cp',he,N,Y,-,hel⟩:=nH.o;obtain⟨rfl,rfl⟩:ap=Oo/\cp=cp':=by simpa using he
  unfold maxLen at Y;have HO0:=I jE.o;have NV:=I R9.o;obtain⟨c0,c1,c2,c3⟩:=aT NV.o;have z0:w.heap.size<w9:=(γ NV.o);clear he rE;go_wp2;go_loopw [3,28] (fun bv i wr=>∃k:Nat,k<=m.aH.length/\i=J k/\aK w wr/\w.heap.size<wr/\OwnB wr (w.heap.size+1) bv (b0++(m.aH.take k).flatMap gy)) (fun _ i _=>m.aH.length - (intOf i).toNat)
  case atStart=>exact⟨0,V,rfl,HB0.o,z0,by simpa using HO0.o⟩
  case round=>
   obtain⟨k,hk',rfl,hb,hz,bU⟩:=hrel;obtain⟨a2,k2,rfl⟩:=dG bU;by_cases hlt:k<m.aH.length
   ·obtain⟨b,o,rfl,d0,d1,d2,-,i1,i2⟩:=pX.at_ hel k hlt
    replace d0:=hb.sub _ _ d0;replace d1:=hb.sub _ _ d1;replace d2:=hb.sub _ _ d2;have HN:=I (show b0++(m.aH.take (k+1)).flatMap gy=(b0++(m.aH.take k).flatMap gy++jC m.aH[k].k)++jC m.aH[k].n by
     rw [Ia gy hlt];simp [gy])
    have hlk:(m.aH.take k).length<=4:=by rw [List.length_take];omega
    have hln:(b0++(m.aH.take k).flatMap gy).length<=131:=by
     have:=pU.o k;have:=HL0.o;rw [List.length_append];omega
    have Am:=I hln;have HJ1:=I i1;have HJ2:=I i2;have HNK:=I (lF (fJ i1).1 (fJ i1).2);have fR:=I (lF (fJ i2).1 (fJ i2).2);have HOW:=I bU;have HB:=I hb;have HZ:=I hz;clear hel i1 i2 hlk hln bU hb c0 c1 c2 c3 HL0 HO0;generalize b0++(m.aH.take k).flatMap gy=pr at*;generalize m.aH[k]=p at*;obtain⟨ph,pk,pn⟩:=p;simp only at d0 d1 d2 HJ1 HJ2 HN HNK fR;have rE:Hid (∀q,(Value.slice a2 pr.length k2).ownBlock=some q->q<wr.heap.size):=I (fun q O=>(World.ownsRow.lt HOW.o q O).2);have RP:=I (bn wr (.cells #[J ph,J pk,J pn] 111));have aD:=I (HOW.o.grow ((aG wr).alloc (.cells #[J ph,J pk,J pn] 111)));have HGA:Hid (aK w (wr.alloc (.cells #[J ph,J pk,J pn] 111))):=I (HB.o.alloc _);go_upto_region 6 with fail
    obtain⟨wa,fZ⟩:=χ (wr.alloc (.cells #[J ph,J pk,J pn] 111));rw [<-fZ] at RP aD HGA ⊢;clear fZ;refine dH (fun w'=>w'.cell? ⟨wr,1,none⟩=some (J pk)/\w'.cell? ⟨wr,2,none⟩=some (J pn)) 9 κ ?_;obtain⟨wd,hWd⟩:=χ wa.drew;rw [<-hWd];have GD:aK wa wd:=by rw [hWd];exact(aG _).drew
    have zD:wa.heap.size=wd.heap.size:=by rw [hWd];rfl
    clear hWd zD;refine qJ [0,1,2,5,6] 13 κ (fun _ _ _ _ _ h=>h) (⟨(iI (aF RP.o GD)).2.1,(iI (aF RP.o GD)).2.2⟩) ?_;repeat (refine jY ?_;try simp only [bT])
    refine qK ?_;refine bO 3 κ rfl ?_;intro K M;try simp only [dD]
    go_simp;go_at_call 127
    refine(su _ HJ1.o).mono ?_;rintro e w3 ⟨v3,rfl,mZ,fB⟩;have n_:=I mZ;have R3:=I (aF (aF RP.o GD) fB);have GG3:=aK.trans (aK.trans HGA.o GD) fB;have HP3:=I (OwnB.grow (OwnB.grow aD.o GD) fB);clear mZ fB;refine ψ M (fun _=>⟨(iI R3.o).2.1,(iI R3.o).2.2⟩) ?_;try simp only [bT]
    refine bO 4 κ rfl ?_;intro K M;refine aY rfl ?_;try simp only [dD]
    refine TQ (.tmp 32) (.tmp 35) rfl rfl HP3.o (by have:=(γ R3.o);have:=HZ.o;omega) rfl n_.o (by have:=Am.o;have:=HNK.o;omega) ?_;intro v4 w4 vO aL;obtain⟨a4,k4,rfl⟩:=dG vO;have NW:=I vO;have R4:=I (aL.row R3.o (fun q O=>by have:=rE.o q O;omega));have GG4:=aL.all GG3 (fun q O=>by have:=World.ownsRow.lt HP3.o q O;omega);have A2y:Hid (∀q,(Value.slice a4 (pr++jC pk).length k4).ownBlock=some q->q≠wr.heap.size):=I (fun q O=>by
     have hz2:=(γ R3.o);rcases aL.2 with e|⟨g,e,hg⟩
     ·rw [e] at O;have:=rE.o q O;omega
     ·rw [e] at O;obtain rfl:=bI O;omega)
    clear vO aL;have L0:Hid ((pr++jC pk).length<=141):=I (by have:=Am.o;have:=HNK.o;rw [List.length_append];omega);generalize pr++jC pk=pr4 at*;refine ψ M (fun _=>⟨(iI R4.o).2.1,(iI R4.o).2.2⟩) ?_;try simp only [bT]
    refine bO 7 κ rfl ?_;intro K M;try simp only [dD]
    go_simp;go_at_call 127
    refine(su _ HJ2.o).mono ?_;rintro e w7 ⟨v7,rfl,yR,jQ⟩;have zN:=I yR;have R7:=I (aF R4.o jQ);have GG7:=aK.trans GG4 jQ;have HP7:=I (OwnB.grow NW.o jQ);clear yR jQ;refine ψ M (fun _=>⟨(iI R7.o).2.1,(iI R7.o).2.2⟩) ?_;try simp only [bT]
    refine bO 8 κ rfl ?_;intro K M;refine aY rfl ?_;try simp only [dD]
    refine TQ (.tmp 36) (.tmp 39) rfl rfl HP7.o (by have:=(γ R7.o);have:=HZ.o;omega) rfl zN.o (by have:=L0.o;have:=fR.o;omega) ?_;intro v8 w8 nT hm8;obtain⟨a8,k8,rfl⟩:=dG nT;have t_:=I nT;have R8:=I (hm8.row R7.o (fun q O=>by have:=A2y.o q O;omega));have GG8:=hm8.all GG7 (fun q O=>by have:=World.ownsRow.lt HP7.o q O;omega);clear nT hm8;generalize pr4++jC pn=pr8 at*;refine ψ M (fun _=>⟨(iI R8.o).2.1,(iI R8.o).2.2⟩) ?_;try simp only [bT]
    refine bO 9 κ rfl ?_;intro K M;try simp only [dD]
    go_simp;refine ψ M (fun h=>absurd rfl h) ?_;try simp only [bT]
    refine bW κ ?_;go_wp2;go_roundw
    case rel=>exact⟨k+1,V,by go_num,GG8,by have:=HZ.o;have:=(γ R8.o);omega,by rw [HN.o];exact t_.o⟩
    case measure=>simp [intOf];omega
   ·rw [eG V,HM.o] at bU ⊢
    have HOW:=I bU;have HB:=I hb;have HZ:=I hz;have HLH:Hid ((iF m).length<=111):=I (by
     rw [<-HM.o,List.length_append];have:=pU.o m.aH.length;rw [eG (Nat.le_refl _)] at this;have:=HL0.o;omega)
    obtain⟨z1,hz1⟩:=χ (UInt8.ofNat (xX (iF m)/256));obtain⟨z2,hz2⟩:=χ (UInt8.ofNat (xX (iF m)));have hs1:=Fq (iF m);have eW:Hid ((xX (iF m):Int)/256=(z1.toNat:Int)):=I (by rw [hz1,r_];omega);have Gl:Hid ((xX (iF m):Int) % 256=(z2.toNat:Int)):=I (by rw [hz2,r_];omega);have HBM:Hid (iF m++ [z1,z2]=dh m):=I (by rw [hz1,hz2];rfl);have SR:=I (fun(W:World) (hW:aK wr W)=>YA W ((HOW.o.grow hW).bts));clear hel bU hb hz hz1 hz2 c0 c1 c2 c3 HL0 HO0;generalize xX (iF m)=s at*;generalize iF m=hd at*;go_wp2_with fail
    refine(SR.o _ (aG _)).mono ?_;rintro e w7 ⟨rfl,jQ⟩;have zN:=I (HOW.o.grow jQ);have Ai:=I (HB.o.trans jQ);have ST:w.heap.size+1<=w7.heap.size:=by have:=jQ.size;have:=HZ.o;omega
    clear jQ;go_wp2_with (at_builtin;refine Ui rfl _ _ rfl rfl zN.o ST rfl rfl [z1,z2] ?e0 rfl ?e1 ?_)
    case e0=>exact two_bytes (by first|exact eW.o|(rw [<-eW.o];omega)) (by first|exact Gl.o|(rw [<-Gl.o];omega))
    case e1=>have:=HLH.o;simp;omega
    intro v9 w9 gX Uo;have jE:=I (OwnB.low (base':=w.heap.size) gX V);have Aj:=I (Uo.all Ai.o (fun q O=>by have:=World.ownsRow.lt zN.o q O;omega));clear gX Uo;go_wp2;go_ret;exact⟨_,rfl,by rw [<-HBM.o];exact jE.o,Aj.o⟩
theorem Xa {l:List (List UInt8)} {ms:List Ms} {k:Nat} (h:24<=(kC l (ms.take k)).length):kC l ms=kC l (ms.take k):=by
 rw [Px,List.length_take] at h;unfold kC;rw [List.take_take];by_cases hk:24 - l.length<=k
 ·rw [Nat.min_eq_left hk]
 ·have:ms.length<=k:=by omega
  rw [eG (i:=24 - l.length) V,eG V]
def QN (k:Int) (D:List Rd) (done:List Int):Sm:=
 done.foldl (fun s d=>match D.find? (nG d) with|some r=>pY s (jT r.aH k)|none=>s) ⟨0,0,0,0⟩
structure MD (G:Reg) (n:Int):Prop where
 nd:(G.map (·.1)).Nodup
 ok:∀x∈G,0<=x.1/\dO x.2 n=0
structure Uy (G:Reg) (D:List Rd):Prop where
 reg:∀r∈D,(r.aJ,r.aH)∈G
 nd:(D.map (·.aJ)).Nodup
structure HI (G:Reg) (D:List Rd) (k:Int) (h:Hs):Prop where
 calm:Calm h
 reg:∀r∈h.ready,∃P,(r.aJ,P)∈G/\r.aH=jT P k/\r.aH≠ []
 fits:∀r∈h.ready,jH h.aP.get r.aH=0
 right:D5 h.aP=true
 done:∀d∈h.done,∃r∈D,r.aJ=d/\jT r.aH k≠ []
 nodup:h.done.Nodup
 apart:∀r∈h.ready,r.aJ∉h.done
 aP:h.aP=QN k D h.done
 add:∀q:Int,0<=q->q<4->h.aP.get q=tot k q (D.filter fun r=>decide (r.aJ∈h.done))
 bg:∀r∈h.bg,Tv r=true
theorem vS {G:Reg} (h:(G.map (·.1)).Nodup):∀{d:Int} {P Q:List Pt},(d,P)∈G->(d,Q)∈G->P=Q:=by
 induction G with
 |nil=>intro d P Q h;simp at h
 |cons x G ih=>
  intro d P Q N Y;rw [List.map_cons,List.nodup_cons] at h;rcases List.mem_cons.1 N with e1|N<;>rcases List.mem_cons.1 Y with e2|Y
  ·rw [<-e1] at e2;exact(Prod.mk.inj e2).2.symm
  ·exact absurd (List.mem_map.2 ⟨_,Y,by rw [<-e1]⟩) h.1
  ·exact absurd (List.mem_map.2 ⟨_,N,by rw [<-e2]⟩) h.1
  ·exact ih h.2 N Y
theorem l_ {D:List Rd} (h:(D.map (·.aJ)).Nodup) {r:Rd} (hr:r∈D):D.find? (nG r.aJ)=some r:=by
 induction D with
 |nil=>simp at hr
 |cons x D ih=>
  rw [List.map_cons,List.nodup_cons] at h;rcases List.mem_cons.1 hr with rfl|hr
  ·rw [List.find?_cons_of_pos (by simp [nG])]
  ·rw [List.find?_cons_of_neg (by simp [nG];exact fun e=>h.1 (List.mem_map.2 ⟨r,hr,e.symm⟩))]
   exact ih h.2 hr
theorem Uz {k q:Int} {r:Rd}:∀{D:List Rd} {done:List Int},(D.map (·.aJ)).Nodup->r∈D->r.aJ∉done->
  tot k q (D.filter fun x=>decide (x.aJ∈done++ [r.aJ]))=tot k q (D.filter fun x=>decide (x.aJ∈done))+amt k q r.aH
 | [],done,_,h,_=>by simp at h
 |x::D,done,hn,h,hd=>by
  rw [List.map_cons,List.nodup_cons] at hn;rcases List.mem_cons.1 h with rfl|h
  ·have e:(D.filter fun x=>decide (x.aJ∈done++ [r.aJ]))=D.filter fun x=>decide (x.aJ∈done):=by
    refine List.filter_congr fun y hy=>?_;have hne:y.aJ≠r.aJ:=fun e=>hn.1 (List.mem_map.2 ⟨y,hy,e⟩);simp [hne]
   rw [List.filter_cons_of_pos σ,List.filter_cons_of_neg (by simpa using hd),tot,e];omega
  ·have ih:=Uz (k:=k) (q:=q) hn.2 h hd
   have hne:x.aJ≠r.aJ:=fun e=>hn.1 (List.mem_map.2 ⟨r,h,e.symm⟩);by_cases Z:x.aJ∈done
   ·rw [List.filter_cons_of_pos (by simp [Z]),List.filter_cons_of_pos (by simp [Z]),tot,tot,ih];omega
   ·rw [List.filter_cons_of_neg (by simp [Z,hne]),List.filter_cons_of_neg (by simp [Z]),ih]
theorem mem_erase {l:List Rd} {d:Int} (hn:(l.map (·.aJ)).Nodup) {r:Rd} (h:r∈l.eraseP (nG d)):r∈l/\r.aJ≠d:=by
 refine⟨List.eraseP_sublist.subset h,fun e=>?_⟩;have:=Jk (d:=d) hn;unfold dP at this;rw [List.any_eq_false] at this;exact this r h (by simp [nG,e])
theorem Ie {h:Hs} (hm:Made h) (r:Rc):(gW h r).aP=(f_ h r).aP:=by rw [He hm]
theorem HI.hear {G:Reg} {D:List Rd} {k:Int} {h:Hs} {n:Int} (hi:HI G D k h) (hg:MD G n) (hd:Uy G D) {m:Ms} (hm:mD m) (hk:m.aU=k)
  (N:m.aX=1->∃P,(m.aJ,P)∈G/\m.aH=jT P k/\m.aH≠ []) (h4:m.aX=4->∃r∈D,r.aJ=m.aJ/\jT r.aH k≠ []):HI G D k (dK h m):=by
 have hc:=ZF hi.calm hm;obtain⟨aX,d,aU,ps⟩:=m;simp only at hk;subst hk;have vT:=hi.calm.made;by_cases k1:aX=1
 ·subst k1
  by_cases hv:iy h d ps=0/\dP h.ready d=false
  ·have e:dK h ⟨1,d,aU,ps⟩=gW h ⟨1,d,ps⟩:=by unfold dK;rw [bC rfl,bC hv]
   rw [e] at hc ⊢;obtain⟨P,hP,hps,hne⟩:=N rfl;simp only at hP hps hne;have hnd:d∉h.done:=by
    intro Z;have:=hv.1;unfold iy at this;rw [bC Z] at this;cases this
   have hfit:jH h.aP.get ps=0:=by
    have:=hv.1;unfold iy at this;rw [aV hnd,aV (by simp [hv.2])] at this;split at this
    ·cases this
    ·exact this
   obtain⟨e1,e2⟩:=Yr vT ps hv.2;have e3:(gW h ⟨1,d,ps⟩).aP=h.aP:=by rw [Ie vT,Ho,E_ hv.2]
   refine⟨hc,?_,?_,by rw [e3];exact hi.right,by rw [e2];exact hi.done,by rw [e2];exact hi.nodup,?_,by rw [e3,e2];exact hi.aP,by rw [e3,e2];exact hi.add,?_⟩
   ·rw [e1]
    intro r hr;rcases List.mem_append.1 hr with hr|hr
    ·exact hi.reg r hr
    ·obtain rfl:=List.mem_singleton.1 hr
     exact⟨P,hP,hps,hne⟩
   ·rw [e1,e3]
    intro r hr;rcases List.mem_append.1 hr with hr|hr
    ·exact hi.fits r hr
    ·obtain rfl:=List.mem_singleton.1 hr
     exact hfit
   ·rw [e1,e2]
    intro r hr;rcases List.mem_append.1 hr with hr|hr
    ·exact hi.apart r hr
    ·obtain rfl:=List.mem_singleton.1 hr
     exact hnd
   ·rw [TU]
    intro r hr;rcases List.mem_append.1 hr with hr|hr
    ·exact hi.bg r hr
    ·obtain rfl:=List.mem_singleton.1 hr
     have hp:=hm.aH rfl;have hdd:=hm.aJ;simp only at hp hdd;unfold Tv;rw [decide_eq_true_eq];exact⟨hdd.1,fun _=>hp.1,fun _=>hne⟩
  ·rw [show dK h ⟨1,d,aU,ps⟩=h by unfold dK;rw [bC rfl,aV hv]]
   exact hi
 have hdd:=hm.aJ;simp only at hdd;have uq:∀kd:Int,kd≠1->∀r∈(gW h ⟨kd,d,[]⟩).bg,Tv r=true:=by
  intro kd hkd;rw [TU];intro r hr;rcases List.mem_append.1 hr with hr|hr
  ·exact hi.bg r hr
  ·obtain rfl:=List.mem_singleton.1 hr
   unfold Tv;rw [decide_eq_true_eq];exact⟨hdd.1,fun h=>absurd rfl h,fun h=>absurd h hkd⟩
 by_cases k4:aX=4
 ·subst k4
  by_cases hr:dP h.ready d=true
  ·have e:dK h ⟨4,d,aU,ps⟩=gW h ⟨2,d,[]⟩:=by unfold dK;simp [hr]
   rw [e] at hc ⊢;obtain⟨e1,e2⟩:=K_ vT hr;obtain⟨x,Z⟩:=rW hr;have hxm:=List.mem_of_find?_eq_some Z;have hxd:x.aJ=d:=KQ Z;obtain⟨P,hP,hxp,hxne⟩:=hi.reg x hxm;obtain⟨r,hrD,hrd,A2z⟩:=h4 rfl;simp only at hrd;have hrG:=hd.reg r hrD;rw [hrd,<-hxd] at hrG;obtain rfl:P=r.aH:=vS hg.nd hP hrG;have hw:=(hg.ok _ hP).2;simp only at hw;have e3:(gW h ⟨2,d,[]⟩).aP=pY h.aP (jT r.aH aU):=by
    rw [Ie vT,Ho,Z];simp [hxp]
   have hfit:=hi.fits x hxm;rw [hxp] at hfit;have hget:=(La hw hi.right aU).1 hfit;have hsum:∀q:Int,0<=q->q<4->(pY h.aP (jT r.aH aU)).get q=h.aP.get q+amt aU q r.aH:=fun q a b=>Yv hw hi.right aU a b;have hnd:d∉h.done:=by rw [<-hxd];exact hi.apart x hxm
   refine⟨hc,?_,?_,?_,?_,?_,?_,?_,?_,uq 2 ε⟩
   ·rw [e1]
    exact fun y hy=>hi.reg y (mem_erase hi.calm.fine.nodup hy).1
   ·rw [e1,e3]
    intro y hy;obtain⟨hy1,hy2⟩:=mem_erase hi.calm.fine.nodup hy;rw [<-hi.fits y hy1];obtain⟨Q,hQ,hyp,-⟩:=hi.reg y hy1;have hwQ:=(hg.ok _ hQ).2;simp only at hwQ;refine Lc fun p hp=>?_;rw [hyp] at hp;have hpk:=QB hwQ aU p hp;rw [hsum p.k hpk.1 hpk.2];have hz:has aU p.k r.aH=false:=by
     cases hh:has aU p.k r.aH with
     |false=>rfl
     |true=>
      have k1:=Bc hi.calm.apart x hxm (by rw [hxp];exact Ld hh);have k2:=Bc (key:=p.k) hi.calm.apart y hy1 (by rw [hyp];exact List.mem_map.2 ⟨p,hp,rfl⟩);exact absurd (by rw [<-k2,k1,hxd]) hy2
    rw [Fa hz];omega
   ·rw [e3]
    exact vM.2 fun q a b=>by rw [hsum q a b];exact hget q a b
   ·rw [e2]
    intro y hy;rcases List.mem_append.1 hy with hy|hy
    ·exact hi.done y hy
    ·obtain rfl:=List.mem_singleton.1 hy
     exact⟨r,hrD,hrd,A2z⟩
   ·rw [e2,List.nodup_append]
    refine⟨hi.nodup,σ,fun a ha b hb e=>?_⟩;rw [e,List.mem_singleton.1 hb] at ha;exact hnd ha
   ·rw [e1,e2]
    intro y hy;obtain⟨hy1,hy2⟩:=mem_erase hi.calm.fine.nodup hy;simp only [List.mem_append,List.mem_singleton,not_or];exact⟨hi.apart y hy1,hy2⟩
   ·rw [e3,e2]
    unfold QN;rw [List.foldl_append];show _=(match D.find? (nG d) with|some r=>pY (QN aU D h.done) (jT r.aH aU)|none=>_);rw [<-hrd,l_ hd.nd hrD];simp only;rw [<-hi.aP]
   ·intro q a b
    rw [e3,e2,hsum q a b,hi.add q a b];have:=Uz (k:=aU) (q:=q) hd.nd hrD (done:=h.done) (by rw [hrd];exact hnd);rw [hrd] at this;rw [this]
  ·rw [show dK h ⟨4,d,aU,ps⟩=h by unfold dK;simp [hr]]
   exact hi
 by_cases k5:aX=5
 ·subst k5
  by_cases hr:dP h.ready d=true
  ·have e:dK h ⟨5,d,aU,ps⟩=gW h ⟨3,d,[]⟩:=by unfold dK;simp [hr]
   rw [e] at hc ⊢;obtain⟨e1,e2⟩:=Yt vT hr;obtain⟨x,Z⟩:=rW hr;have e3:(gW h ⟨3,d,[]⟩).aP=h.aP:=by rw [Ie vT,Ho,Z];simp
   have hsub:∀y∈h.ready.eraseP (nG d),y∈h.ready:=fun y hy=>List.eraseP_sublist.subset hy;exact⟨hc,by rw [e1];exact fun y hy=>hi.reg y (hsub y hy),by rw [e1,e3];exact fun y hy=>hi.fits y (hsub y hy),by rw [e3];exact hi.right,by rw [e2];exact hi.done,by rw [e2];exact hi.nodup,
    by rw [e1,e2];exact fun y hy=>hi.apart y (hsub y hy),by rw [e3,e2];exact hi.aP,by rw [e3,e2];exact hi.add,uq 3 ε⟩
  ·rw [show dK h ⟨5,d,aU,ps⟩=h by unfold dK;simp [hr]]
   exact hi
 ·rw [show dK h ⟨aX,d,aU,ps⟩=h by unfold dK;simp [k1,k4,k5]]
  exact hi
theorem HI.more {G G':Reg} {D:List Rd} {k:Int} {h:Hs} (hi:HI G D k h) (hG:∀x∈G,x∈G'):HI G' D k h:=
 ⟨hi.calm,fun r hr=>by obtain⟨P,a,b⟩:=hi.reg r hr;exact⟨P,hG _ a,b⟩,hi.fits,hi.right,hi.done,hi.nodup,hi.apart,hi.aP,hi.add,hi.bg⟩
theorem Ju {k:Int} {D:List Rd} {r:Rd}:∀{done:List Int} (s:Sm),(∀d∈done,∃r∈D,r.aJ=d)->
  done.foldl (fun s d=>match (D++ [r]).find? (nG d) with|some r=>pY s (jT r.aH k)|none=>s) s=done.foldl (fun s d=>match D.find? (nG d) with|some r=>pY s (jT r.aH k)|none=>s) s
 | [],s,_=>rfl
 |d::done,s,h=>by
  obtain⟨x,Z,hd⟩:=h d List.mem_cons_self;have:(D.find? (nG d)).isSome=true:=by rw [List.find?_isSome];exact⟨x,Z,by simp [nG,hd]⟩
  obtain⟨y,hy⟩:=Option.isSome_iff_exists.1 this;rw [List.foldl_cons,List.foldl_cons,List.find?_append,hy];exact Ju _ fun e he=>h e (List.mem_cons_of_mem _ he)
theorem HI.dec {G:Reg} {D:List Rd} {k:Int} {h:Hs} {r:Rd} (hi:HI G D k h) (hr:r.aJ∉h.done):HI G (D++ [r]) k h:=by
 refine⟨hi.calm,hi.reg,hi.fits,hi.right,fun d hd=>?_,hi.nodup,hi.apart,?_,fun q a b=>?_,hi.bg⟩
 ·obtain⟨x,Z,e⟩:=hi.done d hd
  exact⟨x,List.mem_append_left _ Z,e⟩
 ·unfold QN
  rw [Ju _ fun d hd=>by obtain⟨x,Z,e,-⟩:=hi.done d hd;exact⟨x,Z,e⟩];exact hi.aP
 ·rw [List.filter_append,List.filter_cons_of_neg (by simpa using hr),List.filter_nil,List.append_nil]
  exact hi.add q a b
theorem HI.zero (G:Reg) (D:List Rd) (k:Int):HI G D k hs0:=by
 refine⟨ZB,by intro r hr;simp [hs0,jM] at hr,by intro r hr;simp [hs0,jM] at hr,ε,by intro r hr;simp [hs0,jM] at hr,by simp [hs0,jM],by intro r hr;simp [hs0,jM] at hr,rfl,?_,by intro r hr;simp [hs0,jM] at hr⟩;intro q a b;have:(D.filter fun r=>decide (r.aJ∈hs0.done))=[]:=by
  rw [List.filter_eq_nil_iff];intro x _;simp [hs0,jM]
 rw [this];have O:q=0∨q=1∨q=2∨q=3:=by omega
 rcases O with rfl|rfl|rfl|rfl<;>rfl
def V6 (hs:List Hs) (k d:Int):Prop:=∃h,hs[k.toNat]? =some h/\dP h.ready d=true
def OC (hs:List Hs) (k d:Int):Prop:=∃h,hs[k.toNat]? =some h/\d∈h.done
structure Core (n:Nat) (G:Reg) (hd:Hd) (hs:List Hs):Prop where
 len:hs.length=n
 n3:1<=n/\n<=3
 reg:MD G n
 old:∀x∈G,x.1<64*hd.aW+hd.next
 aW:1<=hd.aW/\hd.aW<=20
 next:0<=hd.next/\hd.next<=64
 vU:(fA hd.bg).aW=hd.aW
 zQ:∀d P,(∃o∈(fA hd.bg).bG,o.aJ=d/\o.aH=P)↔∃o∈hd.bG,o.aJ=d/\o.aH=P/\o.dec=true
 UA:((fA hd.bg).bG.map (·.aJ)).Nodup
 xY:∀o∈(fA hd.bg).bG,o.dec=true/\o.aZ=[]
 UC:(hd.bG.map (·.aJ)).Nodup
 sD:∀o∈hd.bG,(o.aJ,o.aH)∈G
 Bl:hd.bG.length<=12
 rF:∀o∈hd.bG,(o.dec=true↔∃r∈bH hd.bg,r.aJ=o.aJ)
 onew:∀o∈hd.bG,o.aZ.Nodup/\(∀k∈o.aZ,k∈dB o.aH)/\o.aZ.length<(dB o.aH).length
 Dq:∀o∈hd.bG,o.dec=false->∀k∈o.aZ,V6 hs k o.aJ
 Dt:∀o∈hd.bG,o.dec=true->∀k∈o.aZ,OC hs k o.aJ
 dec:Uy G (bH hd.bg)
 held:∀r∈bH hd.bg,∀k∈dB r.aH,V6 hs k r.aJ∨OC hs k r.aJ
 ends:∀r∈bH hd.bg,(∀o∈hd.bG,o.aJ≠r.aJ)->∀k∈dB r.aH,OC hs k r.aJ
 aU:∀(k:Nat) h,hs[k]? =some h->HI G (bH hd.bg) k h
 ord:(bH hd.bg).Pairwise fun r1 r2=>∀k q,has k q r1.aH=true->has k q r2.aH=true->OC hs k r1.aJ
 pre:∀A B,bH hd.bg=A++B->∀k q,0<=tot k q A/\tot k q A<=1048576
structure wZ (n:Nat) (G:Reg) (hd:Hd) (hs:List Hs) (m:Ms):Prop where
 right:mD m
 here:m.aU<n
 reg:∃P,(m.aJ,P)∈G/\m.aU∈dB P/\(m.aX=1->m.aH=jT P m.aU)
 yes:m.aX=2->∀o∈hd.bG,o.aJ=m.aJ->o.dec=false->V6 hs m.aU m.aJ
 commit:m.aX=4->∃r∈bH hd.bg,r.aJ=m.aJ
 abort:m.aX=5->((∀r∈bH hd.bg,r.aJ≠m.aJ)/\∀o∈hd.bG,o.aJ≠m.aJ)∨OC hs m.aU m.aJ
 ack:m.aX=6->OC hs m.aU m.aJ
theorem J8 {hs:List Hs} {k:Int} {h h':Hs} (hk:hs[k.toNat]? =some h) (j:Int):(hs.set k.toNat h')[j.toNat]? =if j.toNat=k.toNat then some h' else hs[j.toNat]?:=by
 have hl:=(List.getElem?_eq_some_iff.1 hk).1;by_cases e:j.toNat=k.toNat
 ·rw [bC e,e,List.getElem?_set_self hl]
 ·rw [aV e,List.getElem?_set_ne (fun e'=>e e'.symm)]
theorem QO {hs:List Hs} {k:Int} {h h':Hs} (hk:hs[k.toNat]? =some h) {j d:Int} (hr:V6 hs j d) (hh:j.toNat=k.toNat->dP h.ready d=true->dP h'.ready d=true):V6 (hs.set k.toNat h') j d:=by
 obtain⟨x,Z,hd⟩:=hr;unfold V6;rw [J8 hk];by_cases e:j.toNat=k.toNat
 ·rw [bC e]
  rw [e,hk] at Z;obtain rfl:=bI Z;exact⟨_,rfl,hh e hd⟩
 ·rw [aV e];exact⟨x,Z,hd⟩
theorem EE {hs:List Hs} {k:Int} {h h':Hs} (hk:hs[k.toNat]? =some h) (hh:∀d∈h.done,d∈h'.done) {j d:Int} (hr:OC hs j d):OC (hs.set k.toNat h') j d:=by
 obtain⟨x,Z,hd⟩:=hr;unfold OC;rw [J8 hk];by_cases e:j.toNat=k.toNat
 ·rw [bC e]
  rw [e,hk] at Z;obtain rfl:=bI Z;exact⟨_,rfl,hh _ hd⟩
 ·rw [aV e];exact⟨x,Z,hd⟩
theorem Core.Ig {n:Nat} {G:Reg} {hd:Hd} {hs:List Hs} (c:Core n G hd hs) {k:Int} {h:Hs} (h0:0<=k) (hk:hs[k.toNat]? =some h):HI G (bH hd.bg) k h:=by
 have:=c.aU k.toNat h hk;rwa [show((k.toNat:Nat):Int)=k by omega] at this
theorem Core.Bo {n:Nat} {G:Reg} {hd:Hd} {hs:List Hs} (c:Core n G hd hs) {k d:Int} (h0:0<=k) (h:V6 hs k d) {P:List Pt} (hP:(d,P)∈G):
  ∃h,hs[k.toNat]? =some h/\HI G (bH hd.bg) k h/\(⟨d,jT P k⟩:Rd)∈h.ready/\d∉h.done:=by
 obtain⟨x,Z,hr⟩:=h;have hi:=c.Ig h0 Z;obtain⟨y,hy⟩:=rW hr;have hym:=List.mem_of_find?_eq_some hy;have T7:y.aJ=d:=KQ hy;obtain⟨Q,hQ,hp,-⟩:=hi.reg y hym;rw [T7] at hQ;obtain rfl:=vS c.reg.nd hQ hP;refine⟨x,Z,hi,?_,by rw [<-T7];exact hi.apart y hym⟩;rw [<-T7,<-hp];exact hym
theorem Core.mA {n:Nat} {G:Reg} {hd:Hd} {hs:List Hs} (c:Core n G hd hs) {k d:Int} (h0:0<=k) (h:V6 hs k d):¬OC hs k d:=by
 rintro⟨y,hy,T7⟩;obtain⟨x,Z,hr⟩:=h;rw [Z] at hy;obtain rfl:=bI hy;have hi:=c.Ig h0 Z;obtain⟨z,hz⟩:=rW hr;have:=hi.apart z (List.mem_of_find?_eq_some hz);rw [KQ hz] at this;exact this T7
theorem Core.UD {n:Nat} {G:Reg} {hd:Hd} {hs:List Hs} (c:Core n G hd hs) {k d:Int} (h0:0<=k) (h:OC hs k d):∃r∈bH hd.bg,r.aJ=d:=by
 obtain⟨x,Z,hr⟩:=h;obtain⟨r,a,b,-⟩:=(c.Ig h0 Z).done d hr;exact⟨r,a,b⟩
theorem Core.hear {n:Nat} {G:Reg} {hd:Hd} {hs:List Hs} (c:Core n G hd hs) {m:Ms} (hm:wZ n G hd hs m) {h:Hs} (hk:hs[m.aU.toNat]? =some h):
  Core n G hd (hs.set m.aU.toNat (dK h m))/\(∀x,wZ n G hd hs x->wZ n G hd (hs.set m.aU.toNat (dK h m)) x)/\∀x∈dV h m.aU m,wZ n G hd (hs.set m.aU.toNat (dK h m)) x:=by
 have Gj:=hm.right.aU.1;have hi:=c.Ig Gj hk;obtain⟨P,hP,hPk,hPp⟩:=hm.reg;have A1t:=(kW.1 hPk).2;have vT:=hi.calm.made;have hi':HI G (bH hd.bg) m.aU (dK h m):=by
  refine hi.hear c.reg c.dec hm.right rfl (fun N=>⟨P,hP,hPp N,by rw [hPp N];exact A1t⟩) fun h4=>?_;obtain⟨r,hr,hrd⟩:=hm.commit h4;have:=c.dec.reg r hr;rw [hrd] at this;obtain rfl:=vS c.reg.nd this hP;exact⟨r,hr,hrd,A1t⟩
 have A3v:=hi.calm.fine;have hdone:∀d∈h.done,d∈(dK h m).done:=by
  intro d hd';unfold dK;split
  ·split
   ·rename_i hv
    rw [(Yr vT _ hv.2).2];exact hd'
   ·exact hd'
  ·split
   ·split
    ·rename_i hr
     rw [(K_ vT hr).2];exact List.mem_append_left _ hd'
    ·exact hd'
   ·split
    ·split
     ·rename_i hr
      rw [(Yt vT hr).2];exact hd'
     ·exact hd'
    ·exact hd'
 have Xb:∀d,dP h.ready d=true->dP (dK h m).ready d=true∨(d=m.aJ/\m.aX=4/\d∈(dK h m).done)∨(d=m.aJ/\m.aX=5):=by
  intro d hr;unfold dK;split
  ·split
   ·rename_i hv
    left;rw [(Yr vT _ hv.2).1];unfold dP at hr ⊢;rw [List.any_append,hr];rfl
   ·exact .inl hr
  ·split
   ·rename_i h4
    split
    ·rename_i VY
     by_cases e:m.aJ=d
     ·right;left
      refine⟨e.symm,h4,?_⟩;rw [(K_ vT VY).2,<-e];simp
     ·left
      rw [(K_ vT VY).1];exact Jl hr e
    ·exact .inl hr
   ·split
    ·rename_i h5
     split
     ·rename_i VY
      by_cases e:m.aJ=d
      ·exact .inr (.inr ⟨e.symm,h5⟩)
      ·left
       rw [(Yt vT VY).1];exact Jl hr e
     ·exact .inl hr
    ·exact .inl hr
 have hyes:m.aX=1->iy h m.aJ m.aH=0->dP (dK h m).ready m.aJ=true:=by
  intro N hv;unfold dK;rw [bC N];split
  ·rename_i hv2
   rw [(Yr vT _ hv2.2).1];simp [dP,nG]
  ·rename_i hv2
   cases hr:dP h.ready m.aJ with
   |true=>rfl
   |false=>exact absurd ⟨hv,hr⟩ hv2
 obtain⟨h',hh'⟩:=χ (dK h m);rw [<-hh'] at hi' hdone Xb hyes ⊢;have D1:∀{j d:Int},OC hs j d->OC (hs.set m.aU.toNat h') j d:=fun Z=>EE hk hdone Z;have A2A:∀o∈hd.bG,o.dec=false->m.aX=4->o.aJ≠m.aJ:=by
  intro o ho hod h4 e;obtain⟨r,hr,hrd⟩:=hm.commit h4;have:=(c.rF o ho).2 ⟨r,hr,by rw [hrd,e]⟩;rw [hod] at this;cases this
 have hab:m.aX=5->dP h.ready m.aJ=true->(∀r∈bH hd.bg,r.aJ≠m.aJ)/\∀o∈hd.bG,o.aJ≠m.aJ:=by
  intro h5 hr;rcases hm.abort h5 with Z|Z
  ·exact Z
  ·exact absurd Z (c.mA Gj ⟨h,hk,hr⟩)
 have R1:∀{j d:Int},V6 hs j d->(∃r∈bH hd.bg,r.aJ=d)->0<=j->V6 (hs.set m.aU.toNat h') j d∨OC (hs.set m.aU.toNat h') j d:=by
  intro j d hr hdD hj;by_cases e:j.toNat=m.aU.toNat
  ·obtain rfl:j=m.aU:=by omega
   obtain⟨x,Z,hxr⟩:=hr;rw [hk] at Z;obtain rfl:=bI Z;rcases Xb d hxr with N|⟨N,Y,h3⟩|⟨N,Y⟩
   ·exact .inl (QO hk ⟨h,hk,hxr⟩ fun _ _=>N)
   ·right
    refine⟨h',?_,h3⟩;rw [J8 hk,bC rfl]
   ·subst N
    obtain⟨r,hrD,hrd⟩:=hdD;exact absurd hrd ((hab Y hxr).1 r hrD)
  ·exact .inl (QO hk hr fun e'=>absurd e' e)
 have R2:∀{j d:Int},V6 hs j d->(∃o∈hd.bG,o.aJ=d/\o.dec=false)->V6 (hs.set m.aU.toNat h') j d:=by
  intro j d hr ⟨o,ho,hod,hoc⟩;refine QO hk hr fun _ hxr=>?_;rcases Xb d hxr with N|⟨N,Y,-⟩|⟨N,Y⟩
  ·exact N
  ·exact absurd (hod.trans N) (A2A o ho hoc Y)
  ·subst N
   exact absurd hod ((hab Y hxr).2 o ho)
 have hc':Core n G hd (hs.set m.aU.toNat h'):={
  len:=by rw [List.length_set];exact c.len
  n3:=c.n3
  reg:=c.reg
  old:=c.old
  aW:=c.aW
  next:=c.next
  vU:=c.vU
  zQ:=c.zQ
  UA:=c.UA
  xY:=c.xY
  UC:=c.UC
  sD:=c.sD
  Bl:=c.Bl
  rF:=c.rF
  onew:=c.onew
  Dq:=fun o ho hoc k hk'=>R2 (c.Dq o ho hoc k hk') ⟨o,ho,rfl,hoc⟩
  Dt:=fun o ho hoc k hk'=>D1 (c.Dt o ho hoc k hk')
  dec:=c.dec
  held:=fun r hr k hk'=>by
   rcases c.held r hr k hk' with Z|Z
   ·exact R1 Z ⟨r,hr,rfl⟩ (τ ((kW.1 hk').1))
   ·exact .inr (D1 Z)
  ends:=fun r hr ho k hk'=>D1 (c.ends r hr ho k hk')
  aU:=fun k x Z=>by
   by_cases e:k=m.aU.toNat
   ·subst e
    rw [List.getElem?_set_self (List.getElem?_eq_some_iff.1 hk).1] at Z;obtain rfl:=bI Z;rwa [show((m.aU.toNat:Nat):Int)=m.aU by omega]
   ·rw [List.getElem?_set_ne (fun e'=>e e'.symm)] at Z
    exact c.aU k x Z
  ord:=c.ord.imp fun Z k q N Y=>D1 (Z k q N Y)
  pre:=c.pre }
 have hM:∀x,wZ n G hd hs x->wZ n G hd (hs.set m.aU.toNat h') x:=fun x Z=>{
  right:=Z.right
  here:=Z.here
  reg:=Z.reg
  yes:=fun Y o ho hod hoc=>R2 (Z.yes Y o ho hod hoc) ⟨o,ho,hod,hoc⟩
  commit:=Z.commit
  abort:=fun h5=>by
   rcases Z.abort h5 with hy|hy
   ·exact .inl hy
   ·exact .inr (D1 hy)
  ack:=fun h6=>D1 (Z.ack h6) }
 refine⟨hc',hM,?_⟩;have hget:(hs.set m.aU.toNat h')[m.aU.toNat]? =some h':=by rw [J8 hk,bC rfl]
 have hR:∀kd:Int,1<kd->kd<=7->mD ⟨kd,m.aJ,m.aU,[]⟩:=fun kd a b=>⟨⟨by show 1<=kd;omega,b⟩,hm.right.aJ,hm.right.aU,fun _=>rfl,fun e=>absurd (show kd=1 from e) V⟩;intro x Z;unfold dV at Z;split at Z
 ·rename_i N
  split at Z
  ·simp at Z
  ·split at Z
   ·rename_i hv
    obtain rfl:=List.mem_singleton.1 Z;exact⟨hR 2 V V,hm.here,⟨P,hP,hPk,(fun e=>by cases e)⟩,fun _ _ _ _ _=>⟨h',hget,hyes N hv⟩,(fun e=>by cases e),(fun e=>by cases e),(fun e=>by cases e)⟩
   ·obtain rfl:=List.mem_singleton.1 Z
    exact⟨hR 3 V V,hm.here,⟨P,hP,hPk,(fun e=>by cases e)⟩,(fun e=>by cases e),(fun e=>by cases e),(fun e=>by cases e),(fun e=>by cases e)⟩
 ·split at Z
  ·rw [<-hh'] at Z
   split at Z
   ·rename_i hd6
    obtain rfl:=List.mem_singleton.1 Z;exact⟨hR 6 V V,hm.here,⟨P,hP,hPk,(fun e=>by cases e)⟩,(fun e=>by cases e),(fun e=>by cases e),(fun e=>by cases e),fun _=>⟨h',hget,hd6⟩⟩
   ·simp at Z
  ·simp at Z
theorem Ep {m:Ms}:∀{l:List Opn},kV m l=none->∀o∈l,o.aJ≠m.aJ
 | [],_=>by simp
 |o::l,h=>by
  unfold kV at h;split at h
  ·cases h
  ·rename_i hne
   intro x Z;rcases List.mem_cons.1 Z with rfl|Z
   ·exact hne
   ·exact Ep (by simpa using h) x Z
theorem vV {m:Ms}:∀{l:List Opn} {x:List Opn×List Rc×List Ms},kV m l=some x->∃A o B,l=A++o::B/\(∀y∈A,y.aJ≠m.aJ)/\o.aJ=m.aJ/\x=(A++(fK o m).1++B,(fK o m).2)
 | [],x,h=>by cases h
 |o::l,x,h=>by
  unfold kV at h;split at h
  ·rename_i he
   obtain rfl:=bI h;exact⟨[],o,l,rfl,σ,he,rfl⟩
  ·rename_i hne
   cases hl:kV m l with
   |none=>rw [hl] at h;cases h
   |some y=>
    rw [hl] at h;obtain⟨A,p,B,e1,e2,e3,e4⟩:=vV hl;refine⟨o::A,p,B,by rw [e1];rfl,?_,e3,?_⟩
    ·intro z hz
     rcases List.mem_cons.1 hz with rfl|hz
     ·exact hne
     ·exact e2 z hz
    ·simp only [Option.map_some,Option.some.injEq] at h
     rw [<-h,e4];simp
theorem all_in:∀{a b:List Int},a.Nodup->(∀k∈a,k∈b)->b.length<=a.length->∀k∈b,k∈a
 | [],b,_,_,hl=>by
  obtain rfl:b=[]:=List.eq_nil_of_length_eq_zero (by simpa using hl);intro k hk;simp at hk
 |x::a,b,hn,hs,hl=>by
  rw [List.nodup_cons] at hn;have Z:=hs x List.mem_cons_self;have ih:=all_in (a:=a) (b:=b.erase x) hn.2 (fun k hk=>(List.mem_erase_of_ne (fun e=>hn.1 (by rw [<-e];exact hk))).2 (hs k (List.mem_cons_of_mem _ hk))) (by rw [List.length_erase_of_mem Z];simp at hl;omega);intro k hk;by_cases e:k=x
  ·rw [e];exact List.mem_cons_self
  ·exact List.mem_cons_of_mem _ (ih k ((List.mem_erase_of_ne e).2 hk))
theorem QS:∀{a b:List Int},a.Nodup->(∀k∈a,k∈b)->a.length<=b.length
 | [],_,_,_=>Nat.zero_le _
 |x::a,b,hn,hs=>by
  rw [List.nodup_cons] at hn;have Z:=hs x List.mem_cons_self;have ih:=QS (a:=a) (b:=b.erase x) hn.2 fun k hk=>(List.mem_erase_of_ne (fun e=>hn.1 (by rw [<-e];exact hk))).2 (hs k (List.mem_cons_of_mem _ hk));rw [List.length_erase_of_mem Z] at ih;have:=List.length_pos_of_mem Z;simp only [List.length_cons];omega
theorem yJ {A B:List Opn} {o x:Opn} (hn:((A++o::B).map (·.aJ)).Nodup) (Z:x∈A++B):x.aJ≠o.aJ:=by
 rw [List.map_append,List.map_cons,List.nodup_append] at hn;obtain⟨-,Y,h3⟩:=hn;rw [List.nodup_cons] at Y;rcases List.mem_append.1 Z with Z|Z
 ·intro e
  exact h3 _ (List.mem_map.2 ⟨x,Z,rfl⟩) _ (by rw [e];exact List.mem_cons_self) rfl
 ·intro e
  exact Y.1 (List.mem_map.2 ⟨x,Z,e⟩)
theorem FB {h:Int}:∀{l:List Pt} {had:List (Int×Int)},(∀p∈l,OZ p h=false)->(∀p∈l,(p.h,p.k)∉had)->(l.map fun p=>(p.h,p.k)).Nodup->jU h had l=0
 | [],_,_,_,_=>rfl
 |p::l,had,N,Y,h3=>by
  rw [List.map_cons,List.nodup_cons] at h3;unfold jU;rw [aV (by simp [N p List.mem_cons_self]),aV (Y p List.mem_cons_self)];refine FB (fun q O=>N q (List.mem_cons_of_mem _ O)) (fun q O hm=>?_) h3.2;rcases List.mem_cons.1 hm with e|hm
  ·exact h3.1 (List.mem_map.2 ⟨q,O,e⟩)
  ·exact Y q (List.mem_cons_of_mem _ O) hm
theorem bS {l:List Pt} {h:Int}:dO l h=0↔0<l.length/\l.length<=4/\(∀p∈l,0<=p.h/\p.h<h/\0<=p.k/\p.k<4/\p.n<=1048576/\-1048576<=p.n)/\(l.map fun p=>(p.h,p.k)).Nodup:=by
 refine⟨g_,fun⟨N,Y,h3,h4⟩=>?_⟩;unfold dO;rw [aV V];refine FB (fun p hp=>?_) σ h4;unfold OZ;rw [decide_eq_false_iff_not];have:=h3 p hp;omega
theorem bX {P:List Pt} {n k:Int} (hw:dO P n=0) (hn:n<=3) (hne:jT P k≠ []):dO (jT P k) 3=0/\∀p∈jT P k,p.h=k:=by
 obtain⟨N,Y,h3,h4⟩:=g_ hw;have hs:(jT P k).Sublist P:=List.filter_sublist;refine⟨bS.2 ⟨List.length_pos_iff.2 hne,Nat.le_trans hs.length_le Y,fun p hp=>?_,h4.sublist (hs.map _)⟩,fun p hp=>?_⟩
 ·have:=h3 p (hs.subset hp)
  omega
 ·unfold jT at hp
  simpa using (List.mem_filter.1 hp).2
theorem mB {A B:List Opn} {o o':Opn} {p:Opn->Prop} (h:p o'↔p o):(∃x∈A++ [o']++B,p x)↔∃x∈A++o::B,p x:=by
 constructor
 ·rintro⟨x,Z,hp⟩
  simp only [List.mem_append,List.mem_singleton] at Z;rcases Z with(Z|rfl)|Z
  ·exact⟨x,by simp [Z],hp⟩
  ·exact⟨o,σ,h.1 hp⟩
  ·exact⟨x,by simp [Z],hp⟩
 ·rintro⟨x,Z,hp⟩
  simp only [List.mem_append,List.mem_cons] at Z;rcases Z with Z|rfl|Z
  ·exact⟨x,by simp [Z],hp⟩
  ·exact⟨o',σ,h.2 hp⟩
  ·exact⟨x,by simp [Z],hp⟩
theorem vW {A B:List Opn} {o o':Opn} {p:Opn->Prop} (h:∀x∈A++o::B,p x) (h':p o'):∀x∈A++ [o']++B,p x:=by
 intro x Z;simp only [List.mem_append,List.mem_singleton] at Z;rcases Z with(Z|rfl)|Z
 ·exact h x (by simp [Z])
 ·exact h'
 ·exact h x (by simp [Z])
theorem wZ.aN {n:Nat} {G G':Reg} {hd hd':Hd} {hs:List Hs} {m:Ms} (h:wZ n G hd hs m) (hG:∀x∈G,x∈G') (hD:∀r∈bH hd.bg,r∈bH hd'.bg)
  (hy:∀o'∈hd'.bG,o'.dec=false->o'.aJ=m.aJ->∃o∈hd.bG,o.aJ=o'.aJ/\o.dec=false)
  (ha:(∀r∈bH hd.bg,r.aJ≠m.aJ)->(∀o∈hd.bG,o.aJ≠m.aJ)->(∀r∈bH hd'.bg,r.aJ≠m.aJ)/\∀o∈hd'.bG,o.aJ≠m.aJ):wZ n G' hd' hs m where
 right:=h.right
 here:=h.here
 reg:=by obtain⟨P,a,b⟩:=h.reg;exact⟨P,hG _ a,b⟩
 yes:=fun Y o' ho hod hoc=>by
  obtain⟨o,a,b,c⟩:=hy o' ho hoc hod;exact h.yes Y o a (b.trans hod) c
 commit:=fun h4=>by obtain⟨r,a,b⟩:=h.commit h4;exact⟨r,hD r a,b⟩
 abort:=fun h5=>by
  rcases h.abort h5 with Z|Z
  ·exact .inl (ha Z.1 Z.2)
  ·exact .inr Z
 ack:=h.ack
variable {n:Nat} {G:Reg} {hd:Hd} {hs:List Hs}
theorem Core.aZ (c:Core n G hd hs) {A B:List Opn} {o:Opn} (e:hd.bG=A++o::B) {k:Int} (hk:k∈dB o.aH) (hn:k∉o.aZ) (hl:o.aZ.length+1≠(dB o.aH).length)
  (N:o.dec=false->V6 hs k o.aJ) (Y:o.dec=true->OC hs k o.aJ):Core n G { hd with bG:=A++ [{ o with aZ:=o.aZ++ [k] }]++B } hs:=by
 have ho:o∈hd.bG:=by rw [e];simp
 have hw:=c.onew o ho;exact {
  len:=c.len,n3:=c.n3,reg:=c.reg,old:=c.old,aW:=c.aW,next:=c.next,vU:=c.vU,UA:=c.UA,xY:=c.xY,dec:=c.dec,held:=c.held,aU:=c.aU,ord:=c.ord,pre:=c.pre
  zQ:=fun d P=>by rw [c.zQ d P,e];exact(mB (o:=o) (o':={ o with aZ:=o.aZ++ [k] }) (p:=fun x=>x.aJ=d/\x.aH=P/\x.dec=true) Iff.rfl).symm
  UC:=by have:=c.UC;rw [e] at this;simpa using this
  sD:=by have:=c.sD;rw [e] at this;exact vW this (c.sD o ho)
  Bl:=by have:=c.Bl;rw [e] at this;simpa using this
  rF:=by have:=c.rF;rw [e] at this;exact vW this (c.rF o ho)
  onew:=by
   have:=c.onew;rw [e] at this;refine vW this ⟨?_,?_,?_⟩
   ·rw [List.nodup_append]
    refine⟨hw.1,σ,fun a ha b hb e=>?_⟩;obtain rfl:=List.mem_singleton.1 hb;exact hn (e▸ha)
   ·intro j hj
    rcases List.mem_append.1 hj with hj|hj
    ·exact hw.2.1 j hj
    ·obtain rfl:=List.mem_singleton.1 hj;exact hk
   ·have:=hw.2.2
    rw [List.length_append,List.length_singleton];show _<(dB o.aH).length;omega
  Dq:=by
   have:=c.Dq;rw [e] at this;refine vW this fun hd j hj=>?_;rcases List.mem_append.1 hj with hj|hj
   ·exact c.Dq o ho hd j hj
   ·obtain rfl:=List.mem_singleton.1 hj;exact N hd
  Dt:=by
   have:=c.Dt;rw [e] at this;refine vW this fun hd j hj=>?_;rcases List.mem_append.1 hj with hj|hj
   ·exact c.Dt o ho hd j hj
   ·obtain rfl:=List.mem_singleton.1 hj;exact Y hd
  ends:=fun r hr hno j hj=>by
   refine c.ends r hr ?_ j hj;rw [e];intro x Z;simp only [List.mem_append,List.mem_cons] at Z;rcases Z with Z|rfl|Z
   ·exact hno x (by simp [Z])
   ·exact hno { x with aZ:=x.aZ++ [k] } σ
   ·exact hno x (by simp [Z]) }
theorem wZ.aZ {m:Ms} (h:wZ n G hd hs m) {A B:List Opn} {o:Opn} (e:hd.bG=A++o::B) (k:Int):wZ n G { hd with bG:=A++ [{ o with aZ:=o.aZ++ [k] }]++B } hs m:=by
 refine h.aN (fun _ h=>h) (fun _ h=>h) (fun o' ho hoc hod=>?_) fun N Y=>⟨N,?_⟩
 ·simp only [List.mem_append,List.mem_singleton] at ho
  rcases ho with(ho|rfl)|ho
  ·exact⟨o',by rw [e];simp [ho],rfl,hoc⟩
  ·exact⟨o,by rw [e];simp,rfl,hoc⟩
  ·exact⟨o',by rw [e];simp [ho],rfl,hoc⟩
 ·rw [e] at Y
  exact vW Y (Y o σ)
theorem Core.drop (c:Core n G hd hs) {l:List Opn} (hs':l.Sublist hd.bG) (hu:∀o∈hd.bG,o∉l->o.dec=false):Core n G { hd with bG:=l } hs where
 len:=c.len
 n3:=c.n3
 reg:=c.reg
 old:=c.old
 aW:=c.aW
 next:=c.next
 vU:=c.vU
 UA:=c.UA
 xY:=c.xY
 dec:=c.dec
 held:=c.held
 aU:=c.aU
 ord:=c.ord
 pre:=c.pre
 zQ:=fun d P=>by
  rw [c.zQ d P];constructor
  ·rintro⟨o,ho,N,Y,h3⟩
   refine⟨o,?_,N,Y,h3⟩;by_cases hl:o∈l
   ·exact hl
   ·rw [hu o ho hl] at h3;cases h3
  ·rintro⟨o,ho,N⟩
   exact⟨o,hs'.subset ho,N⟩
 UC:=c.UC.sublist (hs'.map _)
 sD:=fun o ho=>c.sD o (hs'.subset ho)
 Bl:=Nat.le_trans hs'.length_le c.Bl
 rF:=fun o ho=>c.rF o (hs'.subset ho)
 onew:=fun o ho=>c.onew o (hs'.subset ho)
 Dq:=fun o ho=>c.Dq o (hs'.subset ho)
 Dt:=fun o ho=>c.Dt o (hs'.subset ho)
 ends:=fun r hr hno=>by
  refine c.ends r hr fun o ho e=>?_;have N:=(c.rF o ho).2 ⟨r,hr,e.symm⟩;by_cases hl:o∈l
  ·exact hno o hl e
  ·rw [hu o ho hl] at N;cases N
theorem wZ.drop {m:Ms} (h:wZ n G hd hs m) {l:List Opn} (hs':l.Sublist hd.bG):wZ n G { hd with bG:=l } hs m:=
 h.aN (fun _ h=>h) (fun _ h=>h) (fun o' ho hoc _=>⟨o',hs'.subset ho,rfl,hoc⟩) fun N Y=>⟨N,fun o ho=>Y o (hs'.subset ho)⟩
theorem Core.end' (c:Core n G hd hs) {A B:List Opn} {o:Opn} (e:hd.bG=A++o::B) (hd1:o.dec=true) (hall:∀k∈dB o.aH,OC hs k o.aJ):Core n G { hd with bG:=A++B,bg:=hd.bg++ [⟨6,o.aJ,[]⟩] } hs:=by
 have ho:o∈hd.bG:=by rw [e];simp
 have hsub:(A++B).Sublist hd.bG:=by rw [e];exact(List.Sublist.refl A).append (List.sublist_cons_self o B)
 have hon:=c.UC;rw [e] at hon;have hD:bH (hd.bg++ [⟨6,o.aJ,[]⟩])=bH hd.bg:=by rw [qR];rfl
 have hL:(fA (hd.bg++ [⟨6,o.aJ,[]⟩])).bG=(fA hd.bg).bG.filter fun x=>!(x.aJ==o.aJ):=by rw [rZ];rfl
 have hb:(fA (hd.bg++ [⟨6,o.aJ,[]⟩])).aW=(fA hd.bg).aW:=by rw [rZ];rfl
 exact {
  len:=c.len,n3:=c.n3,reg:=c.reg,old:=c.old,aW:=c.aW,next:=c.next
  vU:=by show(fA (hd.bg++_)).aW=_;rw [hb];exact c.vU
  UA:=by show((fA (hd.bg++_)).bG.map _).Nodup;rw [hL];exact c.UA.sublist (List.filter_sublist.map _)
  xY:=fun x Z=>by
   have Z:x∈(fA (hd.bg++ [⟨6,o.aJ,[]⟩])).bG:=Z;rw [hL] at Z;exact c.xY x (List.mem_filter.1 Z).1
  dec:=by show Uy G (bH (hd.bg++_));rw [hD];exact c.dec
  held:=by show∀r∈bH (hd.bg++_),_;rw [hD];exact c.held
  aU:=by show∀(k:Nat) h,_->HI G (bH (hd.bg++_)) k h;rw [hD];exact c.aU
  ord:=by show(bH (hd.bg++_)).Pairwise _;rw [hD];exact c.ord
  pre:=by show∀A B,bH (hd.bg++_)=A++B->_;rw [hD];exact c.pre
  zQ:=fun d P=>by
   show(∃x∈(fA (hd.bg++_)).bG,_)↔_;rw [hL];constructor
   ·rintro⟨x,Z,N,Y⟩
    obtain⟨Gs,pV⟩:=List.mem_filter.1 Z;obtain⟨y,hy,h3,h4,h5⟩:=(c.zQ d P).1 ⟨x,Gs,N,Y⟩;refine⟨y,?_,h3,h4,h5⟩;rw [e] at hy;simp only [List.mem_append,List.mem_cons] at hy ⊢;rcases hy with hy|rfl|hy
    ·exact .inl hy
    ·rw [N,h3] at pV;simp at pV
    ·exact .inr hy
   ·rintro⟨y,hy,h3,h4,h5⟩
    obtain⟨x,Z,N,Y⟩:=(c.zQ d P).2 ⟨y,hsub.subset hy,h3,h4,h5⟩;refine⟨x,List.mem_filter.2 ⟨Z,?_⟩,N,Y⟩;have:=yJ hon hy;rw [N,<-h3];simpa using this
  UC:=c.UC.sublist (hsub.map _)
  sD:=fun o ho=>c.sD o (hsub.subset ho)
  Bl:=Nat.le_trans hsub.length_le c.Bl
  rF:=fun x Z=>by show x.dec=true↔∃r∈bH (hd.bg++_),_;rw [hD];exact c.rF x (hsub.subset Z)
  onew:=fun o ho=>c.onew o (hsub.subset ho)
  Dq:=fun o ho=>c.Dq o (hsub.subset ho)
  Dt:=fun o ho=>c.Dt o (hsub.subset ho)
  ends:=fun r hr hno j hj=>by
   have hr:r∈bH (hd.bg++ [⟨6,o.aJ,[]⟩]):=hr;rw [hD] at hr;by_cases hro:r.aJ=o.aJ
   ·have N:=c.dec.reg r hr
    rw [hro] at N ⊢;rw [vS c.reg.nd N (c.sD o ho)] at hj;exact hall j hj
   ·refine c.ends r hr ?_ j hj
    rw [e];intro x Z;simp only [List.mem_append,List.mem_cons] at Z;rcases Z with Z|rfl|Z
    ·exact hno x (by simp [Z])
    ·exact fun e=>hro e.symm
    ·exact hno x (by simp [Z]) }
theorem wZ.end' {m:Ms} (h:wZ n G hd hs m) {A B:List Opn} {o:Opn} (e:hd.bG=A++o::B):wZ n G { hd with bG:=A++B,bg:=hd.bg++ [⟨6,o.aJ,[]⟩] } hs m:=by
 have hsub:(A++B).Sublist hd.bG:=by rw [e];exact(List.Sublist.refl A).append (List.sublist_cons_self o B)
 have hD:bH (hd.bg++ [⟨6,o.aJ,[]⟩])=bH hd.bg:=by rw [qR];rfl
 refine h.aN (fun _ h=>h) (fun r hr=>?_) (fun o' ho hoc _=>⟨o',hsub.subset ho,rfl,hoc⟩) fun N Y=>⟨?_,fun o ho=>Y o (hsub.subset ho)⟩
 ·show r∈bH (hd.bg++_)
  rw [hD];exact hr
 ·show∀r∈bH (hd.bg++_),_
  rw [hD];exact N
theorem mC {D A B:List Rd} {r:Rd} (h:D++ [r]=A++B):(∃B',D=A++B')∨A=D++ [r]:=by
 rcases List.eq_nil_or_concat B with rfl|⟨B',x,rfl⟩
 ·right;simpa using h.symm
 ·left
  rw [List.concat_eq_append,<-List.append_assoc] at h;exact⟨B',(List.append_inj' h rfl).1⟩
theorem Core.commit (c:Core n G hd hs) {A B:List Opn} {o:Opn} (e:hd.bG=A++o::B) (hu:o.dec=false) (hall:∀k∈dB o.aH,V6 hs k o.aJ):
  Core n G { hd with bG:=A++ [{ o with dec:=true,aZ:=[] }]++B,bg:=hd.bg++ [⟨5,o.aJ,o.aH⟩] } hs:=by
 have ho:o∈hd.bG:=by rw [e];simp
 have AC:=c.sD o ho;have hw:dO o.aH n=0:=(c.reg.ok _ AC).2;have DC:(n:Int)<=3:=by have:=c.n3;omega
 have hon:=c.UC;rw [e] at hon;have hD:bH (hd.bg++ [⟨5,o.aJ,o.aH⟩])=bH hd.bg++ [⟨o.aJ,o.aH⟩]:=by rw [qR];rfl
 have hL:(fA (hd.bg++ [⟨5,o.aJ,o.aH⟩])).bG=(fA hd.bg).bG++ [⟨o.aJ,o.aH,true,[]⟩]:=by rw [rZ];rfl
 have hb:(fA (hd.bg++ [⟨5,o.aJ,o.aH⟩])).aW=(fA hd.bg).aW:=by rw [rZ];rfl
 have hnD:∀r∈bH hd.bg,r.aJ≠o.aJ:=by
  intro r hr he;have:=(c.rF o ho).2 ⟨r,hr,he⟩;rw [hu] at this;cases this
 have hAB:∀x∈A++B,x∈hd.bG/\x.aJ≠o.aJ:=fun x Z=>⟨by rw [e];simp only [List.mem_append,List.mem_cons] at Z ⊢;rcases Z with Z|Z<;>simp [Z],yJ hon Z⟩;have hin:∀x,x∈A++ [{ o with dec:=true,aZ:=[] }]++B->x={ o with dec:=true,aZ:=[] }∨x∈A++B:=by
  intro x Z;simp only [List.mem_append,List.mem_singleton] at Z ⊢;rcases Z with(Z|Z)|Z
  ·exact .inr (.inl Z)
  ·exact .inl Z
  ·exact .inr (.inr Z)
 have hin':∀x,x∈A++B->x∈A++ [{ o with dec:=true,aZ:=[] }]++B:=by
  intro x Z;simp only [List.mem_append] at Z ⊢;rcases Z with Z|Z
  ·exact .inl (.inl Z)
  ·exact .inr Z
 have hout:∀x∈hd.bG,x=o∨x∈A++B:=by
  intro x Z;rw [e] at Z;simp only [List.mem_append,List.mem_cons] at Z ⊢;rcases Z with Z|Z|Z
  ·exact .inr (.inl Z)
  ·exact .inl Z
  ·exact .inr (.inr Z)
 have hord:∀r∈bH hd.bg,∀k q,has k q r.aH=true->has k q o.aH=true->OC hs k r.aJ:=by
  intro r hr k q N Y;have hrG:=c.dec.reg r hr;have SG:=(zF (c.reg.ok _ hrG).2 DC N).1;have KF:=(zF hw DC Y).1;have Gj:0<=k:=(rX hw KF).1;rcases c.held r hr k SG with Z|Z
  ·obtain⟨h,a1,a2,a3,-⟩:=c.Bo Gj Z hrG
   obtain⟨h',b1,b2,b3,-⟩:=c.Bo Gj (hall k KF) AC;rw [a1] at b1;obtain rfl:=bI b1;have e1:=Bc a2.calm.apart _ a3 (Ld N);have e2:=Bc a2.calm.apart _ b3 (Ld Y);simp only at e1 e2;exact absurd (by rw [<-e1,e2]) (hnD r hr)
  ·exact Z
 exact {
  len:=c.len,n3:=c.n3,reg:=c.reg,old:=c.old,aW:=c.aW,next:=c.next
  vU:=by show(fA (hd.bg++_)).aW=_;rw [hb];exact c.vU
  UA:=by
   show((fA (hd.bg++_)).bG.map _).Nodup;rw [hL,List.map_append,List.nodup_append];refine⟨c.UA,σ,fun a ha b hb' he=>?_⟩;obtain⟨x,Z,rfl⟩:=List.mem_map.1 ha;simp only [List.map_cons,List.map_nil,List.mem_singleton] at hb';obtain⟨y,hy,N,-,h3⟩:=(c.zQ x.aJ x.aH).1 ⟨x,Z,rfl,rfl⟩;rcases hout y hy with rfl|hy
   ·rw [hu] at h3;cases h3
   ·exact(hAB y hy).2 (by rw [N,he,hb'])
  xY:=fun x Z=>by
   have Z:x∈(fA (hd.bg++ [⟨5,o.aJ,o.aH⟩])).bG:=Z;rw [hL] at Z;rcases List.mem_append.1 Z with Z|Z
   ·exact c.xY x Z
   ·obtain rfl:=List.mem_singleton.1 Z;exact⟨rfl,rfl⟩
  zQ:=fun d P=>by
   show(∃x∈(fA (hd.bg++_)).bG,_)↔_;rw [hL];constructor
   ·rintro⟨x,Z,N,Y⟩
    rcases List.mem_append.1 Z with Z|Z
    ·obtain⟨y,hy,h3,h4,h5⟩:=(c.zQ d P).1 ⟨x,Z,N,Y⟩
     rcases hout y hy with rfl|hy
     ·rw [hu] at h5;cases h5
     ·exact⟨y,hin' y hy,h3,h4,h5⟩
    ·obtain rfl:=List.mem_singleton.1 Z
     exact⟨{ o with dec:=true,aZ:=[] },σ,N,Y,rfl⟩
   ·rintro⟨y,hy,h3,h4,h5⟩
    rcases hin y hy with rfl|hy
    ·exact⟨⟨o.aJ,o.aH,true,[]⟩,σ,h3,h4⟩
    ·obtain⟨x,Z,N⟩:=(c.zQ d P).2 ⟨y,(hAB y hy).1,h3,h4,h5⟩
     exact⟨x,List.mem_append_left _ Z,N⟩
  UC:=by simpa using hon
  sD:=fun x Z=>by
   rcases hin x Z with rfl|Z
   ·exact AC
   ·exact c.sD x (hAB x Z).1
  Bl:=by have:=c.Bl;rw [e] at this;simpa using this
  rF:=fun x Z=>by
   show x.dec=true↔∃r∈bH (hd.bg++_),_;rw [hD];rcases hin x Z with rfl|Z
   ·exact⟨fun _=>⟨⟨o.aJ,o.aH⟩,σ,rfl⟩,fun _=>rfl⟩
   ·obtain⟨N,Y⟩:=hAB x Z
    rw [c.rF x N];constructor
    ·rintro⟨r,hr,he⟩;exact⟨r,List.mem_append_left _ hr,he⟩
    ·rintro⟨r,hr,he⟩
     rcases List.mem_append.1 hr with hr|hr
     ·exact⟨r,hr,he⟩
     ·obtain rfl:=List.mem_singleton.1 hr;exact absurd he.symm Y
  onew:=fun x Z=>by
   rcases hin x Z with rfl|Z
   ·exact⟨List.nodup_nil,σ,Bd hw DC⟩
   ·exact c.onew x (hAB x Z).1
  Dq:=fun x Z hxd=>by
   rcases hin x Z with rfl|Z
   ·cases hxd
   ·exact c.Dq x (hAB x Z).1 hxd
  Dt:=fun x Z hxd=>by
   rcases hin x Z with rfl|Z
   ·intro k hk;simp at hk
   ·exact c.Dt x (hAB x Z).1 hxd
  dec:=by
   show Uy G (bH (hd.bg++_));rw [hD];refine⟨fun r hr=>?_,?_⟩
   ·rcases List.mem_append.1 hr with hr|hr
    ·exact c.dec.reg r hr
    ·obtain rfl:=List.mem_singleton.1 hr;exact AC
   ·rw [List.map_append,List.nodup_append]
    refine⟨c.dec.nd,σ,fun a ha b hb' he=>?_⟩;obtain⟨r,hr,rfl⟩:=List.mem_map.1 ha;simp only [List.map_cons,List.map_nil,List.mem_singleton] at hb';exact hnD r hr (he.trans hb')
  held:=by
   show∀r∈bH (hd.bg++_),_;rw [hD];intro r hr k hk;rcases List.mem_append.1 hr with hr|hr
   ·exact c.held r hr k hk
   ·obtain rfl:=List.mem_singleton.1 hr;exact .inl (hall k hk)
  ends:=by
   show∀r∈bH (hd.bg++_),_;rw [hD];intro r hr hno;rcases List.mem_append.1 hr with hr|hr
   ·refine c.ends r hr fun x Z=>?_
    rcases hout x Z with Z|Z
    ·rw [Z];exact fun e=>hnD r hr e.symm
    ·exact hno x (hin' x Z)
   ·obtain rfl:=List.mem_singleton.1 hr
    exact absurd rfl (hno { o with dec:=true,aZ:=[] } σ)
  aU:=by
   show∀(k:Nat) h,_->HI G (bH (hd.bg++_)) k h;rw [hD];intro k h hk;refine(c.aU k h hk).dec fun Z=>?_;obtain⟨r,a,b⟩:=c.UD (k:=(k:Int)) V ⟨h,by simpa using hk,Z⟩;exact hnD r a b
  ord:=by
   show(bH (hd.bg++_)).Pairwise _;rw [hD,List.pairwise_append];refine⟨c.ord,List.pairwise_singleton _ _,fun a ha b hb' k q N Y=>?_⟩;obtain rfl:=List.mem_singleton.1 hb';exact hord a ha k q N Y
  pre:=by
   show∀A B,bH (hd.bg++_)=A++B->_;rw [hD];intro A' B' he k q;rcases mC he with⟨B2,N⟩|N
   ·exact c.pre A' B2 N k q
   ·rw [N,JZ,tot,tot]
    have Y:=c.pre (bH hd.bg) [] σ k q;show 0<=tot k q (bH hd.bg)+(amt k q o.aH+0)/\tot k q (bH hd.bg)+(amt k q o.aH+0)<=1048576;cases hh:has k q o.aH with
    |false=>rw [Fa hh];omega
    |true=>
     obtain⟨hk,q0,q1⟩:=zF hw DC hh;have Gj:0<=k:=(rX hw hk).1;obtain⟨h,b1,b2,b3,-⟩:=c.Bo Gj (hall k hk) AC;have hf:=(La hw b2.right k).1 (b2.fits _ b3) q q0 q1;have ha:=b2.add q q0 q1;rw [D9] at ha
     ·rw [ha] at hf;omega
     ·intro r hr hp
      cases h3:has k q r.aH with
      |false=>exact Fa h3
      |true=>
       obtain⟨h',c1,c2⟩:=hord r hr k q h3 hh;rw [b1] at c1;obtain rfl:=bI c1;simp [c2] at hp }
theorem wZ.EQ {m:Ms} (h:wZ n G hd hs m) (_:Core n G hd hs) {A B:List Opn} {o:Opn} (e:hd.bG=A++o::B):
  wZ n G { hd with bG:=A++ [{ o with dec:=true,aZ:=[] }]++B,bg:=hd.bg++ [⟨5,o.aJ,o.aH⟩] } hs m:=by
 have ho:o∈hd.bG:=by rw [e];simp
 have hD:bH (hd.bg++ [⟨5,o.aJ,o.aH⟩])=bH hd.bg++ [⟨o.aJ,o.aH⟩]:=by rw [qR];rfl
 refine h.aN (fun _ h=>h) (fun r hr=>?_) (fun o' ho' hoc _=>?_) fun N Y=>⟨?_,?_⟩
 ·show r∈bH (hd.bg++_)
  rw [hD];exact List.mem_append_left _ hr
 ·simp only [List.mem_append,List.mem_singleton] at ho'
  rcases ho' with(ho'|rfl)|ho'
  ·exact⟨o',by rw [e];simp [ho'],rfl,hoc⟩
  ·cases hoc
  ·exact⟨o',by rw [e];simp [ho'],rfl,hoc⟩
 ·show∀r∈bH (hd.bg++_),_
  rw [hD];intro r hr;rcases List.mem_append.1 hr with hr|hr
  ·exact N r hr
  ·obtain rfl:=List.mem_singleton.1 hr;exact Y o ho
 ·rw [e] at Y
  exact vW Y (Y o σ)
variable {n:Nat} {G:Reg} {hd:Hd} {hs:List Hs}
theorem Core.aJ (c:Core n G hd hs) {d:Int} {P:List Pt} (h:(d,P)∈G):0<=d/\d<=1343:=by
 have N:=(c.reg.ok _ h).1;have Y:=c.old _ h;have h3:=c.aW;have h4:=c.next;simp only at N Y;omega
theorem Core.n3' (c:Core n G hd hs):(n:Int)<=3:=by have:=c.n3;omega
theorem Core.plain (c:Core n G hd hs) {d:Int} {P:List Pt} (h:(d,P)∈G) {k:Int} (hk:k∈dB P) {kd:Int} (N:1<kd) (h7:kd<=7):mD ⟨kd,d,k,[]⟩:=by
 have hd':=c.aJ h;have L9:=rX (c.reg.ok _ h).2 hk;have:=c.n3';exact⟨⟨by show 1<=kd;omega,h7⟩,hd',⟨L9.1,by show k<=2;omega⟩,fun _=>rfl,fun e=>absurd (show kd=1 from e) V⟩
theorem Core.here (c:Core n G hd hs) {d:Int} {P:List Pt} (h:(d,P)∈G) {k:Int} (hk:k∈dB P):k<n:=(rX (c.reg.ok _ h).2 hk).2
theorem QT (c:Core n G hd hs) {o:Opn} (ho:o∈hd.bG):∀x∈jD o,wZ n G hd hs x:=by
 intro x Z;unfold jD at Z;obtain⟨k,hk,rfl⟩:=List.mem_map.1 Z;have hk:=(List.mem_filter.1 hk).1;have hG:=c.sD o ho;have hw:dO o.aH n=0:=(c.reg.ok _ hG).2;unfold jI;split
 ·rename_i hdec
  exact⟨c.plain hG hk V V,c.here hG hk,⟨o.aH,hG,hk,(fun e=>by cases e)⟩,(fun e=>by cases e),fun _=>(c.rF o ho).1 hdec,(fun e=>by cases e),(fun e=>by cases e)⟩
 ·have hne:=(kW.1 hk).2
  have hp:=bX hw c.n3' hne;have hd':=c.aJ hG;have L9:=rX hw hk;have hn:=c.n3';exact⟨⟨⟨by show(1:Int)<=1;omega,by show(1:Int)<=7;omega⟩,hd',⟨L9.1,by show k<=2;omega⟩,fun e=>absurd rfl e,fun _=>hp⟩,c.here hG hk,⟨o.aH,hG,hk,fun _=>rfl⟩,(fun e=>by cases e),(fun e=>by cases e),(fun e=>by cases e),(fun e=>by cases e)⟩
theorem Pz (c:Core n G hd hs) {d:Int} {P:List Pt} (hG:(d,P)∈G) (N:∀r∈bH hd.bg,r.aJ≠d) (Y:∀o∈hd.bG,o.aJ≠d):∀x∈fU d P,wZ n G hd hs x:=by
 intro x Z;unfold fU at Z;obtain⟨k,hk,rfl⟩:=List.mem_map.1 Z;exact⟨c.plain hG hk V V,c.here hG hk,⟨P,hG,hk,(fun e=>by cases e)⟩,(fun e=>by cases e),(fun e=>by cases e),fun _=>.inl ⟨N,Y⟩,(fun e=>by cases e)⟩
theorem Core.begin (c:Core n G hd hs) {P:List Pt} (hw:dO P n=0) (hf:uI hd=false):
  Core n ((64*hd.aW+hd.next,P)::G) (kL hd P) hs/\(∀m,wZ n G hd hs m->wZ n ((64*hd.aW+hd.next,P)::G) (kL hd P) hs m)/\∀m∈nM hd P,wZ n ((64*hd.aW+hd.next,P)::G) (kL hd P) hs m:=by
 have hfull:hd.bG.length<=11/\hd.next<=63:=by
  unfold uI at hf;rw [decide_eq_false_iff_not] at hf;omega
 have e:kL hd P={ hd with bG:=hd.bG++ [xW hd P],next:=hd.next+1 }:=by unfold kL;rw [aV (by rw [hf];simp)]
 have hb:=c.aW;have hn:=c.next;have hnew:∀x∈G,x.1≠64*hd.aW+hd.next:=fun x Z he=>by have:=c.old x Z;omega
 have hD:∀r∈bH hd.bg,r.aJ≠64*hd.aW+hd.next:=fun r hr=>hnew _ (c.dec.reg r hr);have hO:∀o∈hd.bG,o.aJ≠64*hd.aW+hd.next:=fun o ho=>hnew _ (c.sD o ho);have hin:∀o,o∈hd.bG++ [xW hd P]->o∈hd.bG∨o=xW hd P:=fun o ho=>by simpa using ho
 have uq:(kL hd P).bg=hd.bg:=by rw [e]
 have hc:Core n ((64*hd.aW+hd.next,P)::G) (kL hd P) hs:=by
  rw [e];exact {
   len:=c.len,n3:=c.n3,vU:=c.vU,UA:=c.UA,xY:=c.xY,aW:=c.aW
   reg:=⟨by
    rw [List.map_cons,List.nodup_cons];exact⟨fun h=>by obtain⟨x,Z,he⟩:=List.mem_map.1 h;exact hnew x Z he,c.reg.nd⟩,fun x Z=>by
    rcases List.mem_cons.1 Z with rfl|Z
    ·exact⟨by show 0<=64*hd.aW+hd.next;omega,hw⟩
    ·exact c.reg.ok x Z⟩
   old:=fun x Z=>by
    rcases List.mem_cons.1 Z with rfl|Z
    ·show 64*hd.aW+hd.next<64*hd.aW+(hd.next+1);omega
    ·have:=c.old x Z
     show x.1<64*hd.aW+(hd.next+1);omega
   next:=⟨by show 0<=hd.next+1;omega,by show hd.next+1<=64;omega⟩
   zQ:=fun d Q=>by
    rw [c.zQ d Q];constructor
    ·rintro⟨o,ho,h⟩;exact⟨o,List.mem_append_left _ ho,h⟩
    ·rintro⟨o,ho,N,Y,h3⟩
     rcases hin o ho with ho|rfl
     ·exact⟨o,ho,N,Y,h3⟩
     ·cases h3
   UC:=by
    rw [List.map_append,List.nodup_append];refine⟨c.UC,σ,fun a ha b hb' he=>?_⟩;obtain⟨o,ho,rfl⟩:=List.mem_map.1 ha;simp only [List.map_cons,List.map_nil,List.mem_singleton] at hb';exact hO o ho (he.trans hb')
   sD:=fun o ho=>by
    rcases hin o ho with ho|rfl
    ·exact List.mem_cons_of_mem _ (c.sD o ho)
    ·exact List.mem_cons_self
   Bl:=by rw [List.length_append];simp;omega
   rF:=fun o ho=>by
    rcases hin o ho with ho|rfl
    ·exact c.rF o ho
    ·constructor
     ·intro h;cases h
     ·rintro⟨r,hr,he⟩;exact absurd he (hD r hr)
   onew:=fun o ho=>by
    rcases hin o ho with ho|rfl
    ·exact c.onew o ho
    ·exact⟨List.nodup_nil,(fun k hk=>by cases hk),Bd hw c.n3'⟩
   Dq:=fun o ho hd' k hk=>by
    rcases hin o ho with ho|rfl
    ·exact c.Dq o ho hd' k hk
    ·cases hk
   Dt:=fun o ho hd' k hk=>by
    rcases hin o ho with ho|rfl
    ·exact c.Dt o ho hd' k hk
    ·cases hk
   dec:=⟨fun r hr=>List.mem_cons_of_mem _ (c.dec.reg r hr),c.dec.nd⟩
   held:=c.held
   ends:=fun r hr hno=>c.ends r hr fun o ho=>hno o (List.mem_append_left _ ho)
   aU:=fun k h hk=>(c.aU k h hk).more fun x Z=>List.mem_cons_of_mem _ Z
   ord:=c.ord
   pre:=c.pre }
 refine⟨hc,fun m hm=>?_,?_⟩
 ·have hmd:m.aJ≠64*hd.aW+hd.next:=by
   obtain⟨Q,hQ,-⟩:=hm.reg;exact hnew _ hQ
  refine hm.aN (fun x Z=>List.mem_cons_of_mem _ Z) (fun r hr=>by rw [uq];exact hr) (fun o' ho' hoc hod=>?_) fun N Y=>⟨by rw [uq];exact N,fun o ho=>?_⟩
  ·rw [e] at ho'
   rcases hin o' ho' with ho'|rfl
   ·exact⟨o',ho',rfl,hoc⟩
   ·exact absurd hod.symm hmd
  ·rw [e] at ho
   rcases hin o ho with ho|rfl
   ·exact Y o ho
   ·exact fun h=>hmd h.symm
 ·unfold nM
  rw [aV (by rw [hf];simp)];exact QT hc (by rw [e];simp)
theorem Core.fall (c:Core n G hd hs) (hb:¬19<hd.aW):Core n G (lV hd) hs/\∀m,wZ n G hd hs m->wZ n G (lV hd) hs m:=by
 have gB:=c.aW;have hn:=c.next;have e:lV hd={ bg:=hd.bg++ [⟨4,0,[]⟩],aW:=wrap64 ((fA hd.bg).aW+1),next:=0,bG:=(fA hd.bg).bG }:=by
  unfold lV;rw [aV hb,rZ];have:=Ec hd.bg;unfold fF;simp [this.1]
 have hw:wrap64 ((fA hd.bg).aW+1)=hd.aW+1:=by rw [c.vU];unfold wrap64;omega
 rw [hw] at e;have hD:bH (hd.bg++ [⟨4,0,[]⟩])=bH hd.bg:=by rw [qR];rfl
 have hL:(fA (hd.bg++ [⟨4,0,[]⟩])).bG=(fA hd.bg).bG:=by rw [rZ];rfl
 have hB:(fA (hd.bg++ [⟨4,0,[]⟩])).aW=hd.aW+1:=by rw [rZ,<-hw];rfl
 have back:∀o∈(fA hd.bg).bG,∃o'∈hd.bG,o'.aJ=o.aJ/\o'.aH=o.aH/\o'.dec=true:=fun o ho=>(c.zQ o.aJ o.aH).1 ⟨o,ho,rfl,rfl⟩;have hc:Core n G (lV hd) hs:=by
  rw [e];exact {
   len:=c.len,n3:=c.n3,reg:=c.reg
   old:=fun x Z=>by have:=c.old x Z;show x.1<64*(hd.aW+1)+0;omega
   aW:=⟨by show 1<=hd.aW+1;omega,by show hd.aW+1<=20;omega⟩
   next:=⟨Int.le_refl _,by show(0:Int)<=64;omega⟩
   vU:=hB
   zQ:=fun d P=>by
    show(∃o∈(fA (hd.bg++_)).bG,_)↔∃o∈(fA hd.bg).bG,_;rw [hL];constructor
    ·rintro⟨o,ho,N,Y⟩;exact⟨o,ho,N,Y,(c.xY o ho).1⟩
    ·rintro⟨o,ho,N,Y,-⟩;exact⟨o,ho,N,Y⟩
   UA:=by show((fA (hd.bg++_)).bG.map _).Nodup;rw [hL];exact c.UA
   xY:=fun o ho=>by
    have ho:o∈(fA (hd.bg++ [⟨4,0,[]⟩])).bG:=ho;rw [hL] at ho;exact c.xY o ho
   UC:=c.UA
   sD:=fun o ho=>by
    obtain⟨o',N,Y,h3,-⟩:=back o ho;rw [<-Y,<-h3];exact c.sD o' N
   Bl:=by
    have N:((fA hd.bg).bG.map (·.aJ)).length<=(hd.bG.map (·.aJ)).length:=QS c.UA fun d hd'=>by
     obtain⟨o,ho,rfl⟩:=List.mem_map.1 hd';obtain⟨o',N,Y,-⟩:=back o ho;exact List.mem_map.2 ⟨o',N,Y⟩
    simp only [List.length_map] at N;exact Nat.le_trans N c.Bl
   rF:=fun o ho=>by
    show o.dec=true↔∃r∈bH (hd.bg++_),_;rw [hD];obtain⟨o',N,Y,-,h4⟩:=back o ho;rw [<-Y];exact⟨fun _=>(c.rF o' N).1 h4,fun _=>(c.xY o ho).1⟩
   onew:=fun o ho=>by
    obtain⟨o',N,Y,h3,-⟩:=back o ho;rw [(c.xY o ho).2,<-h3];exact⟨List.nodup_nil,(fun k hk=>by cases hk),Bd (c.reg.ok _ (c.sD o' N)).2 c.n3'⟩
   Dq:=fun o ho hd'=>by rw [(c.xY o ho).1] at hd';cases hd'
   Dt:=fun o ho _ k hk=>by rw [(c.xY o ho).2] at hk;cases hk
   dec:=by show Uy G (bH (hd.bg++_));rw [hD];exact c.dec
   held:=by show∀r∈bH (hd.bg++_),_;rw [hD];exact c.held
   ends:=fun r hr hno=>by
    have hr:r∈bH (hd.bg++ [⟨4,0,[]⟩]):=hr;rw [hD] at hr;refine c.ends r hr fun o ho he=>?_;have N:=(c.rF o ho).2 ⟨r,hr,he.symm⟩;obtain⟨o2,Y,h3,-⟩:=(c.zQ o.aJ o.aH).2 ⟨o,ho,rfl,rfl,N⟩;exact hno o2 Y (h3.trans he)
   aU:=by show∀(k:Nat) h,_->HI G (bH (hd.bg++_)) k h;rw [hD];exact c.aU
   ord:=by show(bH (hd.bg++_)).Pairwise _;rw [hD];exact c.ord
   pre:=by show∀A B,bH (hd.bg++_)=A++B->_;rw [hD];exact c.pre }
 refine⟨hc,fun m hm=>?_⟩;have uq:(lV hd).bg=hd.bg++ [⟨4,0,[]⟩]:=by rw [e]
 have OD:(lV hd).bG=(fA hd.bg).bG:=by rw [e]
 refine hm.aN (fun _ h=>h) (fun r hr=>by rw [uq,hD];exact hr) (fun o' ho' hoc _=>?_) fun N Y=>⟨by rw [uq,hD];exact N,fun o ho=>?_⟩
 ·rw [OD] at ho'
  rw [(c.xY o' ho').1] at hoc;cases hoc
 ·rw [OD] at ho
  obtain⟨o',h3,h4,-⟩:=back o ho;rw [<-h4];exact Y o' h3
theorem Core.quit (c:Core n G hd hs):Core n G (oZ hd) hs/\(∀m,wZ n G hd hs m->wZ n G (oZ hd) hs m)/\∀m∈xE hd,wZ n G (oZ hd) hs m:=by
 have hs':(hd.bG.filter fun o=>o.dec).Sublist hd.bG:=List.filter_sublist;have hc:Core n G (oZ hd) hs:=c.drop hs' fun o ho hn=>by
  cases hd':o.dec with
  |false=>rfl
  |true=>exact absurd (List.mem_filter.2 ⟨ho,hd'⟩) hn
 refine⟨hc,fun m hm=>hm.drop hs',fun m hm=>?_⟩;unfold xE at hm;obtain⟨o,ho,hm⟩:=List.mem_flatMap.1 hm;obtain⟨N,Y⟩:=List.mem_filter.1 ho;have hu:o.dec=false:=by simpa using Y
 refine Pz hc (c.sD o N) (fun r hr he=>?_) (fun o' ho' he=>?_) m hm
 ·have:=(c.rF o N).2 ⟨r,hr,he⟩
  rw [hu] at this;cases this
 ·obtain⟨h3,h4⟩:=List.mem_filter.1 ho'
  have h5:=(c.rF o' h3).1 h4;rw [he] at h5;have:=(c.rF o N).2 h5;rw [hu] at this;cases this
theorem Core.mE (c:Core n G hd hs) {m:Ms} (hm:wZ n G hd hs m):Core n G (gQ hd m) hs/\(∀x,wZ n G hd hs x->wZ n G (gQ hd m) hs x)/\∀x∈iQ hd m,wZ n G (gQ hd m) hs x:=by
 obtain⟨P,hP,hk,-⟩:=hm.reg;unfold gQ iQ;cases hl:kV m hd.bG with
 |none=>
  refine⟨c,fun _ h=>h,fun x Z=>?_⟩;simp only at Z;split at Z
  ·obtain rfl:=List.mem_singleton.1 Z
   refine⟨c.plain hP hk V V,c.here hP hk,⟨P,hP,hk,(fun e=>by cases e)⟩,(fun e=>by cases e),(fun e=>by cases e),fun _=>?_,(fun e=>by cases e)⟩;have hno:=Ep hl;by_cases hD:∃r∈bH hd.bg,r.aJ=m.aJ
   ·obtain⟨r,hr,he⟩:=hD
    right;have N:=c.dec.reg r hr;rw [he] at N;have Y:=c.ends r hr (fun o ho=>by rw [he];exact hno o ho) m.aU (by rw [vS c.reg.nd N hP];exact hk);rw [he] at Y;exact Y
   ·exact .inl ⟨fun r hr he=>hD ⟨r,hr,he⟩,hno⟩
  ·simp at Z
 |some y=>
  obtain⟨A,o,B,e,hA,hod,rfl⟩:=vV hl;simp only;have ho:o∈hd.bG:=by rw [e];simp
  have AC:=c.sD o ho;rw [hod] at AC;obtain rfl:=vS c.reg.nd hP AC;have hw:dO o.aH n=0:=(c.reg.ok _ AC).2;have hnew:=c.onew o ho;have hlast:o.aZ.length+1=(dB o.aH).length->m.aU∉o.aZ->∀k∈dB o.aH,k∈o.aZ++ [m.aU]:=fun hl hn=>by
   refine all_in ?_ ?_ (by simp;omega)
   ·rw [List.nodup_append]
    refine⟨hnew.1,σ,fun a ha b hb he=>?_⟩;rw [he,List.mem_singleton.1 hb] at ha;exact hn ha
   ·intro k hk'
    rcases List.mem_append.1 hk' with hk'|hk'
    ·exact hnew.2.1 k hk'
    ·rw [List.mem_singleton.1 hk'];exact hk
  have hsame:({ hd with bG:=A++ [o]++B,bg:=hd.bg++ [] }:Hd)=hd:=by
   cases hd;simp only at e ⊢;simp [e]
  unfold fK;split
  ·rename_i Y
   obtain⟨k2,hu,hin,hn⟩:=Y;have hr:V6 hs m.aU o.aJ:=by rw [hod];exact hm.yes k2 o ho hod hu
   split
   ·rename_i hl1
    have hall:∀k∈dB o.aH,V6 hs k o.aJ:=fun k hk'=>by
     rcases List.mem_append.1 (hlast hl1 hn k hk') with h|h
     ·exact c.Dq o ho hu k h
     ·rw [List.mem_singleton.1 h];exact hr
    have hc:=c.commit e hu hall;exact⟨hc,fun x Z=>Z.EQ c e,QT hc σ⟩
   ·rename_i hl1
    simp only [List.append_nil];have hc:=c.aZ e hin hn hl1 (fun _=>hr) (fun h=>by rw [hu] at h;cases h);exact⟨hc,fun x Z=>Z.aZ e _,fun x Z=>by cases Z⟩
  split
  ·rename_i h3
   obtain⟨k3,hu⟩:=h3;simp only [List.append_nil];have hsub:(A++B).Sublist hd.bG:=by rw [e];exact(List.Sublist.refl A).append (List.sublist_cons_self o B)
   have hon:=c.UC;rw [e] at hon;have hc:=c.drop hsub fun x Z hn=>by
    rw [e] at Z;simp only [List.mem_append,List.mem_cons] at Z hn;rcases Z with Z|rfl|Z
    ·exact absurd (.inl Z) hn
    ·exact hu
    ·exact absurd (.inr Z) hn
   refine⟨hc,fun x Z=>Z.drop hsub,Pz hc (by rw [hod];exact AC) (fun r hr he=>?_) fun o' ho'=>yJ hon ho'⟩;have:=(c.rF o ho).2 ⟨r,hr,he⟩;rw [hu] at this;cases this
  split
  ·rename_i h6
   obtain⟨k6,hu,hin,hn⟩:=h6;have hr:OC hs m.aU o.aJ:=by rw [hod];exact hm.ack k6
   split
   ·rename_i hl1
    have hall:∀k∈dB o.aH,OC hs k o.aJ:=fun k hk'=>by
     rcases List.mem_append.1 (hlast hl1 hn k hk') with h|h
     ·exact c.Dt o ho hu k h
     ·rw [List.mem_singleton.1 h];exact hr
    simp only [List.append_nil];exact⟨c.end' e hu hall,fun x Z=>Z.end' e,fun x Z=>by cases Z⟩
   ·rename_i hl1
    simp only [List.append_nil];exact⟨c.aZ e hin hn hl1 (fun h=>by rw [hu] at h;cases h) (fun _=>hr),fun x Z=>Z.aZ e _,fun x Z=>by cases Z⟩
  split
  ·rename_i h7
   obtain⟨k7,hu⟩:=h7;rw [hsame];refine⟨c,fun _ h=>h,fun x Z=>?_⟩;obtain rfl:=List.mem_singleton.1 Z;have N:=(c.rF o ho).1 hu;rw [hod] at N;exact⟨c.plain hP hk V V,c.here hP hk,⟨o.aH,hP,hk,(fun e=>by cases e)⟩,(fun e=>by cases e),fun _=>N,(fun e=>by cases e),(fun e=>by cases e)⟩
  ·rw [hsame]
   exact⟨c,fun _ h=>h,fun x Z=>by cases Z⟩
structure WI (n:Nat) (G:Reg) (w:AW):Prop where
 core:Core n G w.aN w.aI
 bM:∀m∈w.bM,wZ n G w.aN w.aI m
 len:w.bM.length<=24
theorem UE {bM ms:List Ms} {x:Ms} (h:x∈eu bM ms):x∈bM∨x∈ms:=by
 unfold eu at h;rcases List.mem_append.1 h with h|h
 ·exact .inl h
 ·exact .inr (List.mem_of_mem_take h)
theorem mH {bM:List Ms} (ms:List Ms) (h:bM.length<=24):(eu bM ms).length<=24:=by
 unfold eu;rw [List.length_append,List.length_take];omega
theorem WI.mk' {n:Nat} {G:Reg} {hd:Hd} {hs:List Hs} {bM ms:List Ms} (c:Core n G hd hs) (N:∀m∈bM,wZ n G hd hs m) (Y:∀m∈ms,wZ n G hd hs m) (hl:bM.length<=24):WI n G ⟨hd,hs,eu bM ms⟩:=
 ⟨c,fun m hm=>by
  rcases UE hm with h|h
  ·exact N m h
  ·exact Y m h,mH ms hl⟩
theorem L_ {n:Nat} {G:Reg} {hd:Hd} {hs:List Hs} (c:Core n G hd hs) {k:Nat} {h:Hs} (hk:hs[k]? =some h):∀m∈mg h k,wZ n G hd hs m:=by
 intro m hm;unfold mg at hm;obtain⟨r,hr,rfl⟩:=List.mem_map.1 hm;obtain⟨P,hP,hp,hne⟩:=(c.aU k h hk).reg r hr;have hlt:=(List.getElem?_eq_some_iff.1 hk).1;have h3:=c.n3;have hl:=c.len;have hin:(k:Int)∈dB P:=kW.2 ⟨V,by rw [<-hp];exact hne⟩;exact⟨c.plain hP hin V V,c.here hP hin,⟨P,hP,hin,(fun e=>by cases e)⟩,(fun e=>by cases e),(fun e=>by cases e),(fun e=>by cases e),(fun e=>by cases e)⟩
theorem Mc {n:Nat} {G:Reg} {hd:Hd} {hs:List Hs} (c:Core n G hd hs):∀m∈qO hd,wZ n G hd hs m:=by
 intro m hm;unfold qO at hm;obtain⟨o,ho,hm⟩:=List.mem_flatMap.1 hm;exact QT c ho m hm
theorem WI.come {n:Nat} {G:Reg} {w:AW} (i:WI n G w) {m:Ms} (hm:wZ n G w.aN w.aI m) (hl:w.bM.length<=24):WI n G (iZ w m):=by
 unfold iZ;cases hk:w.aI[m.aU.toNat]? with
 |none=>exact i
 |some h=>
  simp only;split
  ·obtain⟨c,N,Y⟩:=i.core.hear hm hk
   exact WI.mk' c (fun x Z=>N x (i.bM x Z)) Y hl
  ·obtain⟨c,N,Y⟩:=i.core.mE hm
   exact WI.mk' c (fun x Z=>N x (i.bM x Z)) Y hl
theorem WI.tick {n:Nat} {G:Reg} {w:AW} (i:WI n G w) (k:Nat):WI n G (jy w k):=by
 unfold jy;split
 ·exact WI.mk' i.core i.bM (Mc i.core) i.len
 ·cases hk:w.aI[k]? with
  |none=>exact i
  |some h=>exact WI.mk' i.core i.bM (L_ i.core hk) i.len
theorem WI.drop {n:Nat} {G:Reg} {w:AW} (i:WI n G w) (k:Nat):WI n G { w with bM:=w.bM.eraseIdx k }:=
 ⟨i.core,fun m hm=>i.bM m (List.mem_of_mem_eraseIdx hm),Nat.le_trans (List.length_eraseIdx_le _ _) i.len⟩
theorem WI.there {n:Nat} {G:Reg} {w:AW} (i:WI n G w) {k:Int} (h:there w k=true):wZ n G w.aN w.aI (w.bM.getD k.toNat ⟨0,0,0,[]⟩):=by
 unfold Go.Proofs.YtocnmkefmgmkbaaGreat.there at h;rw [decide_eq_true_eq] at h;have hl:k.toNat<w.bM.length:=by omega
 have:w.bM.getD k.toNat ⟨0,0,0,[]⟩=w.bM[k.toNat]:=by rw [List.getD_eq_getElem?_getD,dM hl];rfl
 rw [this];exact i.bM _ (List.getElem_mem _)
theorem WI.step' {n:Nat} {G:Reg} {w:AW} (i:WI n G w) (s:St):∃G',WI n G' (jZ w s)/\(G'=G∨(s.aX=1/\∃d,G'=(d,s.aH)::G)):=by
 unfold jZ;split
 ·rename_i k1
  split
  ·rename_i hw
   rw [i.core.len] at hw;cases hf:uI w.aN with
   |false=>
    obtain⟨c,N,Y⟩:=i.core.begin hw hf;exact⟨_,WI.mk' c (fun x Z=>N x (i.bM x Z)) Y i.len,.inr ⟨k1,_,rfl⟩⟩
   |true=>
    refine⟨G,?_,.inl rfl⟩;have e1:kL w.aN s.aH=w.aN:=by unfold kL;rw [bC hf]
    have e2:nM w.aN s.aH=[]:=by unfold nM;rw [bC hf]
    rw [e1,e2];exact WI.mk' i.core i.bM σ i.len
  ·exact⟨G,i,.inl rfl⟩
 refine⟨G,?_,.inl rfl⟩;split
 ·split
  ·rename_i ht
   have hm:=i.there ht;have i2:=i.drop s.n.toNat;exact i2.come (m:=w.bM.getD s.n.toNat ⟨0,0,0,[]⟩) hm i2.len
  ·exact i
 split
 ·split
  ·exact i.drop _
  ·exact i
 split
 ·split
  ·rename_i ht
   refine⟨i.core,fun m hm=>?_,?_⟩
   ·rcases List.mem_append.1 hm with hm|hm
    ·exact i.bM m hm
    ·rw [List.mem_singleton.1 hm];exact i.there ht.1
   ·rw [List.length_append];have:=ht.2;simp;omega
  ·exact i
 split
 ·split
  ·by_cases hb:19<w.aN.aW
   ·have e:lV w.aN=w.aN:=by unfold lV;rw [bC hb]
    rw [e];exact i
   ·obtain⟨c,N⟩:=i.core.fall hb
    exact⟨c,fun m hm=>N m (i.bM m hm),i.len⟩
  ·exact i
 split
 ·split
  ·exact i.tick _
  ·exact i
 split
 ·obtain⟨c,N,Y⟩:=i.core.quit
  exact WI.mk' c (fun x Z=>N x (i.bM x Z)) Y i.len
 ·exact i
theorem WI.step {n:Nat} {G:Reg} {w:AW} (i:WI n G w) (s:St):∃G',WI n G' (jZ w s)/\(∀x∈G,x∈G')/\∀x∈G',x∈G∨(s.aX=1/\x.2=s.aH):=by
 obtain⟨G',i',rfl|⟨N,d,rfl⟩⟩:=i.step' s
 ·exact⟨_,i',fun _ h=>h,fun _ h=>.inl h⟩
 ·refine⟨_,i',fun x Z=>List.mem_cons_of_mem _ Z,fun x Z=>?_⟩
  rcases List.mem_cons.1 Z with rfl|Z
  ·exact .inr ⟨N,rfl⟩
  ·exact .inl Z
theorem WI.zero {n:Nat} (h:1<=n/\n<=3):WI n [] (gK n):=by
 refine⟨?_,by intro m hm;simp [gK] at hm,by simp [gK]⟩;have hb:(fA [⟨4,0,[]⟩]).aW=1:=by kernel_rfl
 exact {
  len:=by simp [gK]
  n3:=h
  reg:=⟨σ,σ⟩
  old:=by simp
  aW:=by show 1<=(fA [⟨4,0,[]⟩]).aW/\(fA [⟨4,0,[]⟩]).aW<=20;rw [hb];omega
  next:=by show 0<=(0:Int)/\(0:Int)<=64;omega
  vU:=rfl
  zQ:=fun d P=>by
   constructor
   ·rintro⟨o,ho,-⟩;cases ho
   ·rintro⟨o,ho,-⟩;cases ho
  UA:=List.nodup_nil
  xY:=fun o ho=>by cases ho
  UC:=List.nodup_nil
  sD:=fun o ho=>by cases ho
  Bl:=Nat.zero_le _
  rF:=fun o ho=>by cases ho
  onew:=fun o ho=>by cases ho
  Dq:=fun o ho=>by cases ho
  Dt:=fun o ho=>by cases ho
  dec:=⟨(fun r hr=>by cases hr),List.nodup_nil⟩
  held:=fun r hr=>by cases hr
  ends:=fun r hr=>by cases hr
  aU:=fun k x Z=>by
   have:x=hs0:=by
    simp only [gK] at Z;rw [List.getElem?_replicate] at Z;split at Z
    ·exact(bI Z).symm
    ·cases Z
   rw [this];exact HI.zero _ _ _
  ord:=List.Pairwise.nil
  pre:=fun A B e k q=>by
   have hA:A=[]:=(List.append_eq_nil_iff.1 e.symm).1;rw [hA];simp [tot] }
theorem WI.play {n:Nat}:∀(l:List St) {G:Reg} {w:AW},WI n G w->∃G',WI n G' (d_ w l)/\(∀x∈G,x∈G')/\∀x∈G',x∈G∨∃s∈l,s.aX=1/\x.2=s.aH
 | [],G,w,i=>⟨G,i,fun _ h=>h,fun _ h=>.inl h⟩
 |s::l,G,w,i=>by
  obtain⟨G1,i1,a1,b1⟩:=i.step s;obtain⟨G2,i2,a2,b2⟩:=WI.play l i1;refine⟨G2,i2,fun x Z=>a2 x (a1 x Z),fun x Z=>?_⟩;rcases b2 x Z with h|⟨t,ht,h⟩
  ·rcases b1 x h with h|h
   ·exact .inl h
   ·exact .inr ⟨s,List.mem_cons_self,h⟩
  ·exact .inr ⟨t,List.mem_cons_of_mem _ ht,h⟩
theorem WI.sQ {n:Nat} (h:1<=n/\n<=3) (l:List St):∃G,WI n G (d_ (gK n) l)/\∀x∈G,∃s∈l,s.aX=1/\x.2=s.aH:=by
 obtain⟨G,i,-,b⟩:=WI.play l (WI.zero h);refine⟨G,i,fun x Z=>?_⟩;rcases b x Z with h|h
 ·cases h
 ·exact h
def Ty.wd:Ty AW where
 size:=6
 R:=fun c cs x=>∃uO Gz vhs A1u:Value,cs=[uO,J x.aN.aW,J x.aN.next,Gz,vhs,A1u]/\Sl Ty.rc c uO x.aN.bg/\I64 x.aN.aW/\I64 x.aN.next/\Sl Ty.bG c Gz x.aN.bG/\Sl Ty.hs c vhs x.aI/\yS c A1u (x.bM.map dh)
 len:=by rintro c cs x ⟨_,_,_,_,rfl,_⟩;rfl
 mono:=by rintro c c' cs x h ⟨a,b,d,e,rfl,N,Y,h3,h4,h5,h6⟩;exact⟨a,b,d,e,rfl,N.mono h,Y,h3,h4.mono h,h5.mono h,h6.mono h⟩
theorem Of.dJ {c:CM} {v:Value} {x:AW} (hv:Of Ty.wd c v x):∃al cl ao co ah ch an cn,v=.agg #[U al x.aN.bg.length cl,J x.aN.aW,J x.aN.next,U ao x.aN.bG.length co,U ah x.aI.length ch,U an x.bM.length cn]:=by
 obtain⟨cs,rfl,vl,vo,vh,vn,rfl,hl,-,-,ho,hh,hn⟩:=hv;obtain⟨al,cl,rfl,-⟩:=id hl;obtain⟨ao,co,rfl,-⟩:=id ho;obtain⟨ah,ch,rfl,-⟩:=id hh;obtain⟨an,cn,rfl,-⟩:=id hn;exact⟨al,cl,ao,co,ah,ch,an,cn,σ⟩
theorem Of.ji {c:CM} {vl vo vh vn b n:Value} {x:AW} (hv:Of Ty.wd c (.agg #[vl,b,n,vo,vh,vn]) x):Of Ty.hd c (.agg #[vl,b,n,vo]) x.aN/\Sl Ty.hs c vh x.aI/\yS c vn (x.bM.map dh):=by
 obtain⟨cs,he,Md,oH,EV,ME,rfl,hl,hb,hn,ho,hh,hnn⟩:=hv;simp at he;obtain⟨rfl,rfl,rfl,rfl,rfl,rfl⟩:=he;exact⟨⟨_,rfl,_,_,rfl,hl,hb,hn,ho⟩,hh,hnn⟩
theorem Of.qA {c:CM} {vl vo vh vn b n:Value} {hd:Hd} {hs:List Hs} {bM:List Ms} (N:Of Ty.hd c (.agg #[vl,b,n,vo]) hd) (Y:Sl Ty.hs c vh hs) (h3:yS c vn (bM.map dh)):Of Ty.wd c (.agg #[vl,b,n,vo,vh,vn]) ⟨hd,hs,bM⟩:=by
 obtain⟨cs,he,Md,oH,rfl,hl,hb,hn,ho⟩:=N;simp at he;obtain⟨rfl,rfl,rfl,rfl⟩:=he;exact⟨_,rfl,_,_,_,_,rfl,hl,hb,hn,ho,Y,h3⟩
theorem Of.UF {c:CM} {v:Value} {o:Opn} (hv:Of Ty.bG c v o):∃ap cp ah ch,v=.agg #[J o.aJ,U ap o.aH.length cp,.bool o.dec,U ah o.aZ.length ch]:=by
 obtain⟨cs,rfl,vp,vh,rfl,-,hp,hh⟩:=hv;obtain⟨ap,cp,rfl,-⟩:=id hp;obtain⟨ah,ch,rfl,-⟩:=id hh;exact⟨_,_,_,_,rfl⟩
theorem Of.PD {c:CM} {d b vp vh:Value} {o:Opn} (hv:Of Ty.bG c (.agg #[d,vp,b,vh]) o):I64 o.aJ/\Sl Ty.pt c vp o.aH/\Sl Ty.int c vh o.aZ:=by
 obtain⟨cs,he,mI,EV,rfl,hd,hp,hh⟩:=hv;simp at he;obtain⟨-,rfl,-,rfl⟩:=he;exact⟨hd,hp,hh⟩
theorem fG (w w':World):Sub (ov (fun _=>none) w w') w'.cell?:=fun a v e=>by
 unfold ov at e;split at e
 ·cases e
 ·exact e
theorem bK.YJ {α:Type} {T:Ty α} (h0:0<T.size) {w w':World} {e:Nat} {v:Value} {l:List α} (h:bK T (fr w w' [v.ownBlock]) w' w.heap.size e v l):Sl T (ov (fun _=>none) w w') v l:=
 h.slc h0 (Yp _ _ _ _) fun _ ha=>dY ha
structure Ih (k:Nat) (w:AW):Prop where
 bg:w.aN.bg.length<=k+1
 logs:∀h∈w.aI,h.bg.length<=k
def FC (n:Nat) (A:List Rd) (aP:List Sm):Prop:=aP.length=n/\∀(k:Nat) s,aP[k]? =some s->∀q:Int,0<=q->q<4->s.get q=tot k q A
theorem Core.all {n:Nat} {G:Reg} {hd:Hd} {hs:List Hs} (c:Core n G hd hs):∀(B A:List Rd) (aP:List Sm),bH hd.bg=A++B->FC n A aP->
  (qQ aP B).2=B.map (fun _=>(0:Int))/\FC n (bH hd.bg) (qQ aP B).1
 | [],A,aP,e,h=>by
  rw [List.append_nil] at e;rw [e];exact⟨rfl,h⟩
 |r::B,A,aP,e,h=>by
  have hr:r∈bH hd.bg:=by rw [e];simp
  have hw:dO r.aH n=0:=(c.reg.ok _ (c.dec.reg r hr)).2;have hright:∀(k:Nat) s,aP[k]? =some s->D5 s=true:=fun k s hs'=>vM.2 fun q a b=>by
   rw [h.2 k s hs' q a b];exact c.pre A (r::B) e k q
  have e2:bH hd.bg=(A++ [r])++B:=by rw [e];simp
  have hfit:∀(k:Nat) s,aP[k]? =some s->jH s.get (jT r.aH ((0+k:Nat):Int))=0:=fun k s hs'=>by
   rw [Nat.zero_add];refine(La hw (hright k s hs') k).2 fun q a b=>?_;have:=c.pre (A++ [r]) B e2 k q;rw [JZ,tot,tot,<-h.2 k s hs' q a b] at this;omega
  have hz:=Le (k0:=0) hfit;have hda:kM aP r.aH=(qP r.aH 0 aP,0):=by unfold kM;rw [bC hz]
  have Y:FC n (A++ [r]) (qP r.aH 0 aP):=by
   refine⟨by rw [rY];exact h.1,fun k s hs' q a b=>?_⟩;rw [Hr] at hs';cases hk:aP[k]? with
   |none=>rw [hk] at hs';simp at hs'
   |some t=>
    rw [hk] at hs';simp only [Option.map_some,Option.some.injEq,Nat.zero_add] at hs';rw [<-hs',Yv hw (hright k t hk) k a b,h.2 k t hk q a b,JZ,tot,tot];omega
  obtain⟨i1,i2⟩:=Core.all c B (A++ [r]) _ e2 Y;show(kM aP r.aH).2::(qQ (kM aP r.aH).1 B).2=0::B.map (fun _=>(0:Int))/\FC n _ (qQ (kM aP r.aH).1 B).1;rw [hda];exact⟨by rw [i1],i2⟩
theorem Core.settled {n:Nat} {G:Reg} {hd:Hd} {hs:List Hs} (c:Core n G hd hs) (ho:hd.bG=[]):∀r∈bH hd.bg,∀k∈dB r.aH,OC hs k r.aJ:=
 fun r hr=>c.ends r hr fun o h=>by rw [ho] at h;cases h
end Go.Proofs.YtocnmkefmgmkbaaGreat
