/- Parts of proofs, joined: Base, Types, Ty, Aux1, E1, E2, R5, R6, R8, M6, Q8, G2, G13, A12, U26, K34, Trod, Trod2, Trod3. No condition beside those that each theorem names. -/
import Derived.WalkKit
import Derived.WalkSpells
import Derived.WalkLawsBesides
import Derived.BigQuiet
import Derived.StillTailTactics
import Derived.Deep.RegionWith
import Derived.Deep.RegionLaw
import Derived.Lib.Hide
import Derived.Test.YtocnmkefmgmkbaaGreatRows
import Derived.Laws.CopyRow
import Derived.Deep.Slices
import Derived.OpenShut
import Derived.Below
import Derived.ChangeOld
import Derived.ProofKit
import Derived.SizedLaws
import Derived.Test.YtocnmkefmgmkbaaGreatJE1b
import Derived.Test.YtocnmkefmgmkbaaGreatJE6a
import Derived.Test.YtocnmkefmgmkbaaGreatJE4b
import Derived.Test.YtocnmkefmgmkbaaGreatJEUa
import Derived.Test.YtocnmkefmgmkbaaGreatJEHa
import Derived.Test.YtocnmkefmgmkbaaGreatJE7b
import Derived.Test.YtocnmkefmgmkbaaGreatJEDa
import Derived.Test.YtocnmkefmgmkbaaGreatJE9a
import Derived.Test.YtocnmkefmgmkbaaGreatJE3a
import Derived.Test.YtocnmkefmgmkbaaGreatJE2a
import Derived.Test.YtocnmkefmgmkbaaGreatJEGa
import Derived.Test.YtocnmkefmgmkbaaGreatJE5a
import Derived.Test.YtocnmkefmgmkbaaGreatJEAa
set_option maxRecDepth 100000
set_option maxHeartbeats 40000000
namespace Go.Proofs.YtocnmkefmgmkbaaGreat
open Go.RowKit
theorem A0Q (x:Sm):∀u∈x.cells,u.oneCell'=true:=by
 intro u hu;simp only [Sm.cells,List.mem_cons,List.not_mem_nil,or_false] at hu;rcases hu with rfl|rfl|rfl|rfl<;>rfl
abbrev Sms:=Sl Ty.sm
theorem A0R {c:CM} {a:Option Addr} {l:List Sm} (h:∀i x,l[i]? =some x->∃b o cs,a=some ⟨b,o,none⟩/\Ty.sm.R c cs x/\At c b (o+i*Ty.sm.size) cs) (k:Nat) (hk:k<l.length):
  ∃b o,a=some ⟨b,o,none⟩/\c ⟨b,o+k*4,none⟩=some (J l[k].a)/\c ⟨b,o+k*4+1,none⟩=some (J l[k].b)/\c ⟨b,o+k*4+2,none⟩=some (J l[k].c)/\c ⟨b,o+k*4+3,none⟩=some (J l[k].d)/\I64 l[k].a/\I64 l[k].b/\I64 l[k].c/\I64 l[k].d:=by
 obtain⟨b,o,cs,ha,⟨rfl,hR⟩,hA⟩:=h k l[k] (by simp [hk]);exact⟨b,o,ha,hA 0 _ rfl,hA 1 _ rfl,hA 2 _ rfl,hA 3 _ rfl,hR⟩
theorem PF:EI Tryz.prog 70 47 4 32:=EI.mk' (z:=.agg #[J 0,J 0,J 0,J 0]) κ κ rfl ε rfl
theorem Zg:EX Ty.sm:=by
 rintro c cs x ⟨rfl,-⟩ u hu;exact A0Q x u hu
theorem Src.A2i {α:Type} {T:Ty α} (h0:0<T.size) {w:World} {v:Value} {l:List α} (h:Sl T w.cell? v l):Src T w.cell? w v l:=Src.kK h0 (Sub.refl _) h
theorem mV {α:Type} {l l':List α} {k:Nat} (hl:l.length=l'.length) (hk:l.length<=k) (h:∀j,j<k->l[j]? =l'[j]?):l=l':=by
 apply List.ext_getElem?;intro j;by_cases hj:j<k
 ·exact h j hj
 ·rw [List.getElem?_eq_none V,List.getElem?_eq_none V]
theorem kU {α:Type} {l l':List α} {k:Nat} (N:k<l.length) (Y:k<l'.length) (h:∀j,j<k->l[j]? =l'[j]?) (he:l[k]=l'[k]):∀j,j<k+1->l[j]? =l'[j]?:=by
 intro j hj;by_cases e:j=k
 ·subst e;rw [dM N,dM Y,he]
 ·exact h j V
theorem oM {α:Type} [DecidableEq α] {l l':List α} {k:Nat} (N:k<l.length) (Y:k<l'.length) (he:¬l[k]=l'[k]):decide (l=l')=false:=by
 rw [decide_eq_false_iff_not];rintro rfl;exact he rfl
theorem wR (s t:Sm) (w:World):(binOp .eql 47 (.agg #[J s.a,J s.b,J s.c,J s.d]) (.agg #[J t.a,J t.b,J t.c,J t.d])).run Tryz.prog w=.ok (.bool (decide (s=t))) w:=by
 have u3:=Tryz.underlying3;have a3:=Tryz.isAgg3;have z3:=Tryz.sizeOf3;obtain⟨i,z,hi,_⟩:=jL.hi;have hc:Tryz.prog.cellsOf 3=1:=by kernel_rfl
 rw [run_eql_struct,show(10000:Nat)=9999+1 from rfl,run_equalIn_array w 9999 _ _ Tryz.underlying47 hi,hc,show List.range 4=[0,1,2,3] from rfl];clear hi;simp only [Op.eqItems];obtain⟨a,b,c,d⟩:=s;obtain⟨a',b',c',d'⟩:=t;go_simp;by_cases N:a=a'<;>by_cases Y:b=b'<;>by_cases h3:c=c'<;>by_cases h4:d=d'<;>simp [N,Y,h3,h4]
theorem oN:Tryz.prog.eqGuardType Tryz.prog.depth 47=false:=by kernel_rfl
theorem bK.A0S {c c':CM} {w:World} {base e:Nat} {v:Value} {l:List Sm} (h:bK Ty.sm c w base e v l):bK Ty.sm c' w base e v l:=by
 obtain⟨css,N,Y,h3⟩:=h;exact⟨css,N,Y,fun i cs x a b=>h3 i cs x a b⟩
theorem K7:(Tryz.prog.info? 47).map (·.size)=some 4:=by kernel_rfl
theorem A0T (s t:Sm) (w:World):(binOp .neq 47 (.agg #[J s.a,J s.b,J s.c,J s.d]) (.agg #[J t.a,J t.b,J t.c,J t.d])).run Tryz.prog w=.ok (.bool (!decide (s=t))) w:=by
 have h:=wR s t w;rw [run_eql_struct] at h;rw [run_neq_struct];cases hr:(Op.equalIn 10000 47 (.agg #[J s.a,J s.b,J s.c,J s.d]) (.agg #[J t.a,J t.b,J t.c,J t.d])).run Tryz.prog w with
 |ok b w'=>rw [hr] at h;simp only [Result.andThen_ok,Result.ok.injEq,Value.bool.injEq] at h ⊢;exact⟨by rw [h.1],h.2⟩
 |halt x w'=>rw [hr] at h;simp [Result.andThen] at h
theorem SC {v v':Value} {l l':List Sm} (w:World) (hv:Sl Ty.sm w.cell? v l) (hv':Sl Ty.sm w.cell? v' l'):
  Calls Tryz.prog 35 #[v,v'] w fun e w'=>e=.returned (.bool (decide (l=l')))/\aK w w':=by
 obtain⟨a,cap,rfl,N,Y,-,hel⟩:=hv;obtain⟨a',cap',rfl,h1',h2',-,iH⟩:=hv';unfold maxLen at Y h2';by_cases hlen:l.length=l'.length
 ·have hb:((l.length:Int) !=l'.length)=false:=by simp [hlen]
  have HL:=I hlen;clear hlen;go_enter Tryz.func35,Tryz.ntmps35;go_wp2;go_loopw [4,5,13] (fun _ _ i wr=>∃k:Nat,k<=l.length/\i=J k/\aK w wr/\∀j,j<k->l[j]? =l'[j]?) (fun _ _ i _=>l.length - (intOf i).toNat)
  case atStart=>exact⟨0,V,rfl,je,fun j h=>V⟩
  case round=>
   obtain⟨k,hk',rfl,hb,hE⟩:=hrel;by_cases hlt:k<l.length
   ·have hlt':k<l'.length:=by have:=HL.o;omega
    have H1:=I (kU hlt hlt' hE);have H2:Hid (¬l[k]=l'[k]->decide (l=l')=false):=fun h=>oM hlt hlt' h;clear hE;obtain⟨b,o,rfl,c0,c1,c2,c3,-,-,-,-⟩:=A0R hel k hlt;obtain⟨b',o',rfl,c0',c1',c2',c3',-,-,-,-⟩:=A0R iH k hlt';replace c0:=hb.sub _ _ c0;replace c1:=hb.sub _ _ c1;replace c2:=hb.sub _ _ c2;replace c3:=hb.sub _ _ c3;replace c0':=hb.sub _ _ c0';replace c1':=hb.sub _ _ c1';replace c2':=hb.sub _ _ c2';replace c3':=hb.sub _ _ c3';clear hel iH;generalize l[k]=p at*;generalize l'[k]=p' at*;have hg:=oN;have HN:∀w,(binOp .neq 47 (.agg #[J p.a,J p.b,J p.c,J p.d]) (.agg #[J p'.a,J p'.b,J p'.c,J p'.d])).run Tryz.prog w=.ok (.bool (!decide (p=p'))) w:=fun w=>A0T p p' w;by_cases hpp:p=p'
    ·simp only [hpp,decide_true,Bool.not_true] at HN
     have HQ:=I hpp;subst hpp;go_wp2_with (go_quiet (fail))
     go_roundw
     case rel=>exact⟨k+1,V,by go_num,je,H1.o rfl⟩
     case measure=>simp [intOf];omega
    ·simp only [hpp,decide_false,Bool.not_false] at HN
     have HQ:=I (H2.o hpp);clear hpp H2 H1;go_wp2_with (go_quiet (fail))
     go_ret;exact⟨dA HQ.o.symm,je⟩
   ·clear hel iH
    have HE:=I (mV HL.o V hE);go_wp2;go_ret;exact⟨dA (decide_eq_true HE.o).symm,hb⟩
 ·have hb:((l.length:Int) !=l'.length)=true:=by simp;omega
  have hE:decide (l=l')=false:=by rw [decide_eq_false_iff_not];rintro rfl;exact hlen rfl
  have HE:=I hE;clear hlen hE hel iH;go_enter Tryz.func35,Tryz.ntmps35;go_wp2;go_ret;exact⟨dA HE.o.symm,je⟩
theorem wT {P:List Pt} {S:List Sm} {k:Nat} (h:k<S.length):((qP P 0 S).take k++S.drop k).set k (pY S[k] (jT P k))=(qP P 0 S).take (k+1)++S.drop (k+1):=by
 have hl:=rY (P:=P) S 0;have hg:(qP P 0 S)[k]? =some (pY S[k] (jT P k)):=by rw [Hr,dM h];simp
 have Wu:(qP P 0 S)[k]' V=pY S[k] (jT P k):=by rw [dM V] at hg;exact bI hg
 have ht:((qP P 0 S).take k).length=k:=by rw [List.length_take];omega
 rw [List.set_append_right _ _ V,ht,Nat.sub_self,List.drop_eq_getElem_cons h,List.set_cons_zero,List.take_succ_eq_append_getElem V,Wu];simp
theorem xD {P:List Pt} {S:List Sm} {k:Nat} (h:k<S.length):uK P k (S.drop k)=if jH S[k].get (jT P k)=0 then uK P (k+1) (S.drop (k+1)) else jH S[k].get (jT P k):=by
 rw [List.drop_eq_getElem_cons h,uK]
theorem eO {v vp:Value} {S:List Sm} {P:List Pt} (w:World) (hv:Sms w.cell? v S) (hp:pX w.cell? vp P) (hk:jg P) (hm:P.length*24<=140737488355328) (hms:S.length*32<=140737488355328):
  Calls Tryz.prog 69 #[v,vp] w fun e w'=>∃v',e=.returned (.tuple #[v',J (kM S P).2])/\Sms w'.cell? v' (kM S P).1/\aK w w'/\(bK Ty.sm (fun _=>none) w' w.heap.size 47 v' (kM S P).1∨(v'=v/\(kM S P).1=S)):=by
 have CT:=I (fun(n:Int) (W:World) (hW:aK w W)=>KE (n:=n) W (hp.mono hW.sub) hm);have D7:=I (Src.A2i (T:=Ty.sm) ε hv);have HVR:=I hv;have hok:=pX.ok hp;have A3m:=I (fun(n:Int)=>(show AY (jT P n) from fun p hp=>hok p ((List.mem_filter.1 hp).1)));have HKA:=I (fun(n:Int)=>(show jg (jT P n) from fun p hp=>hk p ((List.mem_filter.1 hp).1)));obtain⟨ap,cp,rfl,-⟩:=hp;obtain⟨a,cap,rfl,N,Y,-,hel⟩:=hv;unfold maxLen at Y;clear hk hm hok;go_enter Tryz.func69,Tryz.ntmps69;go_wp2_with (first|(at_builtin;refine cO (c:=w.cell?) (base:=w.heap.size) (l:=[]) (m:=S) PF rfl Zg ε rfl (.tmp 9) (.tmp 10) rfl rfl (bK.mY Ty.sm w.cell? _ _ _ ?c1 ?c1') rfl (D7.o.grow ?c2) ?c3 ?c4 ?_))
 case c1=>exact Nat.le_refl _
 case c1'=>rfl
 case c2=>exact(aG w).alloc _
 case c3=>simp;omega
 case c4=>simp
 intro a1 c1 w1 qM SM dZ;try simp only [List.length_nil,Nat.zero_add,List.nil_append] at qM dZ ⊢
 have VX:=I (dI (w0:=w) ((aG w).alloc _) SM (iM (Nat.le_refl _)));have xA:=I qM;have hmx:S.length<=c1/\c1<=9223372036854775807:=by
  obtain⟨a0,c0,he,h0,h01,-⟩:=qM.sl ε VX.o.sub;simp only [Value.slice.injEq] at he;unfold maxLen at h01;omega
 clear qM SM dZ;go_wp2;go_loopw [4,5,7,14] (fun _ _ _ i wr=>∃k:Nat,k<=S.length/\i=J k/\aK w wr/\uK P 0 S=uK P k (S.drop k)/\bK Ty.sm w.cell? wr w.heap.size 47 (U a1 S.length c1) ((qP P 0 S).take k++S.drop k)) (fun _ _ _ i _=>S.length - (intOf i).toNat)
 case atStart=>exact⟨0,V,rfl,VX.o,rfl,by simpa using xA.o⟩
 case round=>
  obtain⟨k,hk',rfl,hb,hE,bU⟩:=hrel;by_cases hlt:k<S.length
  ·obtain⟨b,o,rfl,c0,c1',c2,c3,i0,i1,i2,i3⟩:=A0R hel k hlt
   replace c0:=hb.sub _ _ c0;replace c1':=hb.sub _ _ c1';replace c2:=hb.sub _ _ c2;replace c3:=hb.sub _ _ c3;clear hel;have hll:((qP P 0 S).take k++S.drop k).length=S.length:=by rw [List.length_append,List.length_take,List.length_drop,rY];omega
   have KL:=bU;rw [<-hll] at KL;obtain⟨g,cs0,rfl,-,-⟩:=KL.get ε 0 V;have HGB:=I ((bU.lt g rfl).1);have HOW:=I KL;have Gt:=I hll;have L8:=I (wT (P:=P) hlt);have hes:=xD (P:=P) hlt;have HSK:Hid (KH (pY S[k] (jT P k))):=I (KH.pY ⟨i0,i1,i2,i3⟩ _);have uM:=I (A3m.o (k:Int));have HKO:=I (HKA.o (k:Int));clear bU KL hll i0 i1 i2 i3;rw [hes] at hE;clear hes;generalize S[k]=s at*;rw [show s.get=S4 s.a s.b s.c s.d from rfl] at hE;have HS:Hid (∀W,aK wr W->W.cell? ⟨b,o+k*4,none⟩=some (J s.a)/\W.cell? ⟨b,o+k*4+1,none⟩=some (J s.b)/\W.cell? ⟨b,o+k*4+2,none⟩=some (J s.c)/\W.cell? ⟨b,o+k*4+3,none⟩=some (J s.d)):=fun W hW=>⟨hW.sub _ _ c0,hW.sub _ _ c1',hW.sub _ _ c2,hW.sub _ _ c3⟩;clear c0 c1' c2 c3;by_cases hf:jH (S4 s.a s.b s.c s.d) (jT P k)=0
   ·have HEN:=I (show uK P 0 S=uK P (k+1) (S.drop (k+1)) by rw [hE,bC hf])
    have hbf:(jH (S4 s.a s.b s.c s.d) (jT P k) !=0)=false:=by simp [hf]
    clear hE hf;go_wp2;refine dH (fun w'=>w'.cell? ⟨b,o+k*4,none⟩=some (J s.a)/\w'.cell? ⟨b,o+k*4+1,none⟩=some (J s.b)/\w'.cell? ⟨b,o+k*4+2,none⟩=some (J s.c)/\w'.cell? ⟨b,o+k*4+3,none⟩=some (J s.d)) 8 κ ?_;obtain⟨wd,hWd⟩:=χ wr.drew;rw [<-hWd];have GD:aK wr wd:=by rw [hWd];exact(aG _).drew
    have zD:wr.heap.size=wd.heap.size:=by rw [hWd];rfl
    clear hWd zD;refine qJ [0,1,2,3,4,5] 11 κ (fun _ _ _ _ _ h=>h) (HS.o _ GD) ?_;repeat (refine jY ?_;try simp only [bT])
    refine qK ?_;refine bO 6 κ rfl ?_;intro K M;try simp only [dD]
    go_simp;go_at_call 20
    refine(CT.o _ _ (hb.trans GD)).mono ?_;rintro e wa ⟨va,rfl,hoa,A0U⟩;have Gwa:=aK.trans GD A0U;obtain⟨aa,ca,rfl⟩:=dG hoa;have aD:=I (pX.yZ hoa uM.o);clear hoa;refine ψ M (fun _=>HS.o _ Gwa) ?_;try simp only [bT]
    refine bO 7 κ rfl ?_;intro K M;try simp only [dD]
    go_simp;go_at_call 107
    refine(KD (s0:=s.a) (s1:=s.b) (s2:=s.c) (s3:=s.d) _ aD.o HKO.o).mono ?_;rintro e wb ⟨rfl,A0V⟩;have Gwb:=aK.trans Gwa A0V;refine ψ M (fun _=>HS.o _ Gwb) ?_;try simp only [bT]
    refine bO 8 κ rfl ?_;intro K M;try simp only [dD]
    go_simp;refine ψ M (fun h=>absurd rfl h) ?_;try simp only [bT]
    refine bW κ ?_;have GQ:=I Gwb;have Gl:=I (fun(W:World) (hW:aK wb W)=>HS.o W (aK.trans GQ.o hW));have HOB:=I (HOW.o.grow GQ.o);go_wp2;refine dH (fun w'=>w'.cell? ⟨b,o+k*4,none⟩=some (J s.a)/\w'.cell? ⟨b,o+k*4+1,none⟩=some (J s.b)/\w'.cell? ⟨b,o+k*4+2,none⟩=some (J s.c)/\w'.cell? ⟨b,o+k*4+3,none⟩=some (J s.d)) 11 κ ?_;obtain⟨wd,hWd⟩:=χ wb.drew;rw [<-hWd];have GD:aK wb wd:=by rw [hWd];exact(aG _).drew
    have zD:wb.heap.size=wd.heap.size:=by rw [hWd];rfl
    clear hWd zD;refine qJ [0,1,2,3,4,5,6,7] 14 κ (fun _ _ _ _ _ h=>h) (Gl.o _ GD) ?_;repeat (refine jY ?_;try simp only [bT])
    refine qK ?_;refine bO 8 κ rfl ?_;intro K M;try simp only [dD]
    go_simp;go_at_call 20
    refine(CT.o _ _ (hb.trans (GQ.o.trans GD))).mono ?_;rintro e we ⟨ve,rfl,hoe,A3n⟩;have Gwe:=aK.trans GD A3n;obtain⟨ae,ce,rfl⟩:=dG hoe;have HOE:=I (pX.yZ hoe uM.o);clear hoe;refine ψ M (fun _=>Gl.o _ Gwe) ?_;try simp only [bT]
    refine bO 9 κ rfl ?_;intro K M;try simp only [dD]
    go_simp;go_at_call 21
    refine(gN (s:=s) _ HOE.o HKO.o).mono ?_;rintro e wf ⟨rfl,A3o⟩;have Gwf:=aK.trans Gwe A3o;refine ψ M (fun _=>Gl.o _ Gwf) ?_;try simp only [bT]
    refine qJ [10] 14 κ (fun _ _ _ _ _ h=>h) (Gl.o _ Gwf) ?_;repeat (refine jY ?_;try simp only [bT])
    refine qK ?_;refine bO 11 κ rfl ?_;intro K M;refine aY rfl ?_;try simp only [dD]
    refine xG (T:=Ty.sm) (i:=k) (x:=pY s (jT P k)) (cells:=#[J (pY s (jT P k)).a,J (pY s (jT P k)).b,J (pY s (jT P k)).c,J (pY s (jT P k)).d]) (.tmp 39) (.tmp 38) rfl rfl rfl (by(try show _=k*4);omega) (HOB.o.grow Gwf) (by rw [Gt.o];exact hlt) K7 ⟨rfl,HSK.o.1,HSK.o.2.1,HSK.o.2.2.1,HSK.o.2.2.2⟩ rfl ?_;intro wz hoz hgz;have HOZ:=I hoz;have GZ:=I (aK.grown (hb.trans (GQ.o.trans Gwf)) hgz (fun q O=>by obtain rfl:=bI O;exact HGB.o));clear hoz hgz;refine ψ M (fun h=>absurd rfl h) ?_;try simp only [bT]
    refine bW κ ?_;go_wp2;go_roundw
    case rel=>exact⟨k+1,V,by go_num,GZ.o,HEN.o,(by have h:=HOZ.o;rw [Gt.o,L8.o] at h;exact h)⟩
    case measure=>simp [intOf];omega
   ·have HER:=I (show kM S P=(S,jH (S4 s.a s.b s.c s.d) (jT P k)) by
     have e1:uK P 0 S=jH (S4 s.a s.b s.c s.d) (jT P k):=by rw [hE,aV hf]
     unfold kM;rw [aV (by rw [e1];exact hf),e1])
    have hbf:(jH (S4 s.a s.b s.c s.d) (jT P k) !=0)=true:=by simp [hf]
    clear hE hf;go_wp2;refine dH (fun w'=>w'.cell? ⟨b,o+k*4,none⟩=some (J s.a)/\w'.cell? ⟨b,o+k*4+1,none⟩=some (J s.b)/\w'.cell? ⟨b,o+k*4+2,none⟩=some (J s.c)/\w'.cell? ⟨b,o+k*4+3,none⟩=some (J s.d)) 8 κ ?_;obtain⟨wd,hWd⟩:=χ wr.drew;rw [<-hWd];have GD:aK wr wd:=by rw [hWd];exact(aG _).drew
    have zD:wr.heap.size=wd.heap.size:=by rw [hWd];rfl
    clear hWd zD;refine qJ [0,1,2,3,4,5] 11 κ (fun _ _ _ _ _ h=>h) (HS.o _ GD) ?_;repeat (refine jY ?_;try simp only [bT])
    refine qK ?_;refine bO 6 κ rfl ?_;intro K M;try simp only [dD]
    go_simp;go_at_call 20
    refine(CT.o _ _ (hb.trans GD)).mono ?_;rintro e wa ⟨va,rfl,hoa,A0U⟩;have Gwa:=aK.trans GD A0U;obtain⟨aa,ca,rfl⟩:=dG hoa;have aD:=I (pX.yZ hoa uM.o);clear hoa;refine ψ M (fun _=>HS.o _ Gwa) ?_;try simp only [bT]
    refine bO 7 κ rfl ?_;intro K M;try simp only [dD]
    go_simp;go_at_call 107
    refine(KD (s0:=s.a) (s1:=s.b) (s2:=s.c) (s3:=s.d) _ aD.o HKO.o).mono ?_;rintro e wb ⟨rfl,A0V⟩;have Gwb:=aK.trans Gwa A0V;refine ψ M (fun _=>HS.o _ Gwb) ?_;try simp only [bT]
    refine bO 8 κ rfl ?_;intro K M;try simp only [dD]
    go_simp;refine ψ M (fun h=>absurd rfl h) ?_;try simp only [bT]
    refine bW κ ?_;have GQ:=I Gwb;have Gl:=I (fun(W:World) (hW:aK wb W)=>HS.o W (aK.trans GQ.o hW));go_wp2;refine dw (v:=.tuple #[U (some ⟨b,o,none⟩) S.length cap,J (jH (S4 s.a s.b s.c s.d) (jT P k))]) (by simp [results,Tryz.results69,go_sem]) rfl ?_;exact⟨_,by rw [HER.o],by rw [HER.o];exact HVR.o.mono (hb.trans GQ.o).sub,hb.trans GQ.o,.inr ⟨rfl,by rw [HER.o]⟩⟩
  ·have KF:k=S.length:=by omega
   have HE9:=I (show kM S P=(qP P 0 S,0) by
    have e1:uK P 0 S=0:=by rw [hE,List.drop_of_length_le V];rfl
    unfold kM;rw [bC e1])
   have h9:=bU.sl ε hb.sub;rw [List.drop_of_length_le V,List.append_nil,eG (by rw [rY];omega)] at h9;have H9:=I h9;have H10:Hid (bK Ty.sm (fun _=>none) wr w.heap.size 47 (U a1 S.length c1) (qP P 0 S)):=I (by
    have h10:=bU.A0S (c':=fun _=>none);rw [List.drop_of_length_le V,List.append_nil,eG (by rw [rY];omega)] at h10;exact h10)
   clear hel h9 bU hE;go_wp2;refine dw (v:=.tuple #[U a1 S.length c1,J 0]) (by simp [results,Tryz.results69,go_sem]) rfl ?_;exact⟨_,by rw [HE9.o],by rw [HE9.o];exact H9.o,hb,.inl (by rw [HE9.o];exact H10.o)⟩
theorem VP:∀(S:List Sm) (D:List Rd) (r:Rd),qQ S (D++ [r])=((kM (qQ S D).1 r.aH).1,(qQ S D).2++ [(kM (qQ S D).1 r.aH).2])
 |S,[],r=>rfl
 |S,q::D,r=>by rw [List.cons_append,qQ,VP,qQ];rfl
theorem Zh:∀(S:List Sm) (D:List Rd),(qQ S D).2.length=D.length
 |_,[]=>rfl
 |S,r::D=>by rw [qQ,List.length_cons,List.length_cons,Zh]
theorem X6 (S:List Sm) (P:List Pt):(kM S P).1.length=S.length:=by
 unfold kM;split
 ·exact rY _ _
 ·rfl
theorem VQ:∀(S:List Sm) (D:List Rd),(qQ S D).1.length=S.length
 |_,[]=>rfl
 |S,r::D=>by rw [qQ,VQ,X6]
theorem VR (f:Int->Int):∀l:List Pt,I64 (jH f l)
 | []=>gZ
 |p::l=>by
  unfold jH;split
  ·show I64 11;unfold I64;decide
  ·split
   ·show I64 4;unfold I64;decide
   ·exact VR f l
theorem Zi (P:List Pt):∀(S:List Sm) (k:Nat),I64 (uK P k S)
 | [],_=>gZ
 |s::S,k=>by
  unfold uK;split
  ·exact Zi P S _
  ·exact VR _ _
theorem eR (S:List Sm) (P:List Pt):I64 (kM S P).2:=by
 unfold kM;split
 ·exact gZ
 ·exact Zi P S 0
theorem eS {n:Nat} (h:1<=n/\n<=3):∃cs:Array Value,(∀w:World,(Instr.makeSlice 70 (J n) (J n)).run Tryz.prog w=.ok (U (some ⟨w,0,none⟩) n n) (w.alloc (.cells cs 47)))/\
  ∀(w:World),bK Ty.sm (fun _=>none) (w.alloc (.cells cs 47)) w.heap.size 47 (U (some ⟨w,0,none⟩) n n) (List.replicate n ⟨0,0,0,0⟩):=by
 have key:∀(m:Nat) (cs:Array Value),m<=3->cs.toList=(List.replicate m (⟨0,0,0,0⟩:Sm)).flatMap Sm.cells->∀(w:World),bK Ty.sm (fun _=>none) (w.alloc (.cells cs 47)) w.heap.size 47 (U (some ⟨w,0,none⟩) m m) (List.replicate m ⟨0,0,0,0⟩):=by
  intro m cs hm hc w;have N:=World.ownsRow_lit (base:=w.heap.size) (e:=47) (size:=4) w cs m (Nat.le_refl _) (by unfold maxLen;omega) (by rw [<-Array.length_toList,hc,qG (f:=Sm.cells) (size:=4) (fun _=>rfl)];simp);rw [hc] at N;have Y:=bK.of_flat (T:=Ty.sm) (f:=Sm.cells) (c:=fun _=>none) (l:=List.replicate m ⟨0,0,0,0⟩) (by rw [List.length_replicate];exact N) (fun x Z=>by
   rw [List.eq_of_mem_replicate Z];exact⟨rfl,gZ,gZ,gZ,gZ⟩)
  exact Y
 obtain⟨N,Y⟩:=h;match n,N,Y with
 |1,_,_=>exact⟨#[J 0,J 0,J 0,J 0],fun w=>κ,key 1 _ ε rfl⟩
 |2,_,_=>exact⟨#[J 0,J 0,J 0,J 0,J 0,J 0,J 0,J 0],fun w=>κ,key 2 _ ε rfl⟩
 |3,_,_=>exact⟨#[J 0,J 0,J 0,J 0,J 0,J 0,J 0,J 0,J 0,J 0,J 0,J 0],fun w=>κ,key 3 _ ε rfl⟩
theorem K8 {v:Value} {n:Nat} {D:List Rd} (w:World) (hn:1<=n/\n<=3) (hv:Sl Ty.rd w.cell? v D) (hD:∀r∈D,dO r.aH n=0) (hm:D.length*8<=140737488355328):
  Calls Tryz.prog 34 #[J n,v] w fun e w'=>∃v1 v2,e=.returned (.tuple #[v1,v2])/\Sms w'.cell? v1 (qQ (List.replicate n ⟨0,0,0,0⟩) D).1/\Sl Ty.int w'.cell? v2 (qQ (List.replicate n ⟨0,0,0,0⟩) D).2/\aK w w':=by
 obtain⟨cs,hmk,hms⟩:=eS hn;have vC:=I (hms w);obtain⟨a,cap,rfl,N,Y,-,hel⟩:=hv;unfold maxLen at Y;have HN:=I hn;have HM:=I hm;clear hms hm;go_enter Tryz.func34,Tryz.ntmps34;go_wp2;clear hmk;go_loopw [6,7,10,11,16] (fun sS sE _ _ i wr=>∃k:Nat,k<=D.length/\i=J k/\aK w wr/\bK Ty.sm (fun _=>none) wr w.heap.size 47 sS (qQ (List.replicate n ⟨0,0,0,0⟩) (D.take k)).1/\(∀g,sS.ownBlock=some g->sE.ownBlock≠some g)/\bK Ty.int (fun _=>none) wr w.heap.size 34 sE (qQ (List.replicate n ⟨0,0,0,0⟩) (D.take k)).2) (fun _ _ _ _ i _=>D.length - (intOf i).toNat)
 case atStart=>exact⟨0,V,rfl,(aG w).alloc _,vC.o,fun g _ e=>by simp [Value.ownBlock] at e,bK.nil _ _ _ _ _⟩
 case round=>
  obtain⟨k,hk',rfl,hb,hOS,hne,hE⟩:=hrel;have hS:=hOS.sl ε (fun a v e=>by cases e);obtain⟨aS,cS,rfl⟩:=hOS.form;obtain⟨aE,cE,rfl⟩:=hE.form;by_cases hlt:k<D.length
  ·obtain⟨b,o,vp,rfl,c0,c1,i0,hP⟩:=VU.at_ hel k hlt
   obtain⟨ap,cp,rfl,-⟩:=id hP;have hw:=hD D[k] (List.getElem_mem hlt);have KM:=I (VP (List.replicate n ⟨0,0,0,0⟩) (D.take k) D[k]);rw [<-List.take_succ_eq_append_getElem hlt] at KM;have A2j:(qQ (List.replicate n ⟨0,0,0,0⟩) (D.take k)).2.length=k:=by rw [Zh];simp;omega
   have nH:=I A2j;clear A2j;have hsl:(qQ (List.replicate n ⟨0,0,0,0⟩) (D.take k)).1.length=n:=by rw [VQ];simp
   replace c0:=hb.sub _ _ c0;replace c1:=hb.sub _ _ c1;have h0:=g_ hw;have HCA:=I (fun(W:World) (hW:aK wr W)=>eO W (hS.mono hW.sub) (hP.mono (hb.trans hW).sub) (vJ hw) V (by rw [hsl];have:=HN.o;omega));have HI:=I (eR (qQ (List.replicate n ⟨0,0,0,0⟩) (D.take k)).1 D[k].aH);have HE:=I hE;have A1:=I hOS;have rE:=I hne;have HB:=I hb;clear hel hS hE hP hw h0 hD hb i0 hsl hOS hne;generalize (qQ (List.replicate n ⟨0,0,0,0⟩) (D.take k)).1=S at*;generalize (qQ (List.replicate n ⟨0,0,0,0⟩) (D.take k)).2=E at*;generalize D[k]=r at*;generalize (kM S r.aH).1=S' at*;generalize (kM S r.aH).2=er at*;go_wp2_with fail
   refine(HCA.o _ ((aG wr).alloc _)).mono ?_;rintro e w3 ⟨v3,rfl,hS3,fB,hO3⟩;obtain⟨a3,c3,rfl,-⟩:=id hS3;have tP:Hid (bK Ty.sm (fun _=>none) w3 w.heap.size 47 (U a3 S'.length c3) S'/\∀g,(Value.slice a3 S'.length c3).ownBlock=some g->(Value.slice aE E.length cE).ownBlock≠some g):=I (by
    rcases hO3 with hO3|⟨e1,e2⟩
    ·exact⟨hO3.base (by have:=HB.o.size;simp;omega),fun g hg e=>by have:=(hO3.lt g hg).1;have:=(HE.o.lt g e).2;simp at*;omega⟩
    ·rw [e1,e2]
     exact⟨A1.o.grow (((aG wr).alloc _).trans fB),rE.o⟩)
   have lU:=I (((aG wr).alloc _).trans fB);clear hS3 fB hO3;go_wp2_with (first|(at_builtin;refine cO (c:=fun _=>none) (base:=w.heap.size) (l:=E) (m:=[er]) Kz rfl jX ε rfl (.tmp 28) (.tmp 30) rfl rfl ?own rfl (Src.dU (T:=Ty.int) (cs:=#[J er]) ⟨rfl,HI.o⟩ _ _ ?d1) ?d2 ?d3 ?_))
   case own=>exact(HE.o.grow lU.o).grow ((aG _).alloc _)
   case d1=>simp
   case d2=>have:=HM.o;have:=nH.o;simp;omega
   case d3=>have:=(HB.o.trans lU.o).size;simp;omega
   intro a9 c9 w9 gX fV iE;have jE:=I gX;have kR:=I (dI (w0:=w) ((HB.o.trans lU.o).alloc _) fV (fun q O=>(HE.o.lt q O).1));have QW:Hid (bK Ty.sm (fun _=>none) w9 w.heap.size 47 (U a3 S'.length c3) S'):=I ((tP.o.1.grow ((aG _).alloc _)).kept fV (by
    cases O:(Value.slice a3 S'.length c3).ownBlock with
    |none=>exact .inl rfl
    |some q=>exact .inr (fun e=>tP.o.2 q O e.symm)))
   have HN9:Hid (∀g,(Value.slice a3 S'.length c3).ownBlock=some g->(Value.slice a9 (E.length+ [er].length) c9).ownBlock≠some g):=I (fun q O e=>by
    change (Value.slice a9 (E.length+1) c9).ownBlock=some q at e;rcases iE with h|⟨g2,h,Wu⟩
    ·rw [h] at e;exact tP.o.2 q O e
    ·rw [h] at e
     obtain rfl:=bI e;have:=(tP.o.1.lt _ O).2;(try simp at Wu);omega)
   clear gX fV iE;go_wp2;go_roundw
   case rel=>exact⟨k+1,V,by go_num,kR.o,by rw [KM.o];exact QW.o,HN9.o,by rw [KM.o];exact jE.o⟩
   case measure=>simp [intOf];omega
  ·rw [eG V] at hS hE ⊢
   clear hOS hne;have HS:=I hS;have HE:=I (hE.sl ε (fun a v e=>by cases e));clear hel hS hE;go_wp2;refine dw (v:=.tuple #[U aS (qQ (List.replicate n ⟨0,0,0,0⟩) D).1.length cS,U aE (qQ (List.replicate n ⟨0,0,0,0⟩) D).2.length cE]) (by simp [results,Tryz.results34,go_sem]) rfl ?_;exact⟨_,_,rfl,HS.o,HE.o,hb⟩
theorem tX {c:CM} {v:Value} {l:List Rc} (w:World) (hc:Sub c w.cell?) (hv:NT c v l) (hm:l.length*40<=140737488355328):
  Calls Tryz.prog 19 #[v] w fun e w'=>∃v',e=.returned v'/\bK Ty.rd c w' w.heap.size 53 v' (bH l)/\aK w w':=by
 obtain⟨a,cap,rfl,N,Y,-,hel⟩:=hv;unfold maxLen at Y;have HM:=I hm;clear hm;go_enter Tryz.func19,Tryz.ntmps19;go_wp2;go_loopw [3,8] (fun s3 i wr=>∃k:Nat,k<=l.length/\i=J k/\aK w wr/\bK Ty.rd c wr w.heap.size 53 s3 (bH (l.take k))) (fun _ i _=>l.length - (intOf i).toNat)
 case atStart=>exact⟨0,V,rfl,aG _,bK.nil _ _ _ _ _⟩
 case round=>
  obtain⟨k,hk',rfl,hb,bU⟩:=hrel;by_cases hlt:k<l.length
  ·obtain⟨b,o,vp,rfl,c0,c1,c2,i0,i1,hP⟩:=NT.at_ hel k hlt
   obtain⟨ap,cp,rfl,-⟩:=id hP;replace c0:=hb.sub _ _ (hc _ _ c0);replace c1:=hb.sub _ _ (hc _ _ c1);replace c2:=hb.sub _ _ (hc _ _ c2);have htk:bH (l.take (k+1))=if l[k].aX=5 then bH (l.take k)++ [⟨l[k].aJ,l[k].aH⟩] else bH (l.take k):=by rw [List.take_succ_eq_append_getElem hlt,qR]
   have nK:=I htk;have hlk:(bH (l.take k)).length<=l.length:=Nat.le_trans (J4 _) (by simp;omega);have dX:=I bU;have HI:=I (And.intro i1 hP);obtain⟨av,cv,rfl⟩:=bU.form;have CB:=I hlk;clear hel hP htk bU i0 i1 hlk;generalize l[k]=r at*;generalize bH (l.take k)=ds at*;by_cases h5:r.aX=5
   ·have b5:(r.aX==5)=true:=by simp [h5]
    have Jo:=I h5;clear h5;go_wp2_with (first|(at_builtin;refine cO (c:=c) (base:=w.heap.size) (l:=ds) (m:=[⟨r.aJ,r.aH⟩]) AZ rfl zo ε rfl (.tmp 15) (.tmp 21) rfl rfl ?own rfl (Src.dU (T:=Ty.rd) (cs:=#[J r.aJ,U ap r.aH.length cp]) ⟨_,rfl,HI.o.1,HI.o.2⟩ _ _ ?d1) ?d2 ?d3 ?_))
    case own=>exact dX.o.grow (((aG _).alloc _).alloc _)
    case d1=>simp
    case d2=>have:=HM.o;have:=CB.o;simp;omega
    case d3=>have:=hb.size;simp;omega
    intro a9 c9 w9 gX fV iE;have kR:Hid (aK w w9):=I (dI (w0:=w) ((hb.alloc _).alloc _) fV (fun q O=>(dX.o.lt q O).1));have jE:=I gX;clear gX fV iE;go_wp2;go_roundw
    case rel=>exact⟨k+1,V,by go_num,kR.o,by rw [nK.o,bC Jo.o];exact jE.o⟩
    case measure=>simp [intOf];omega
   ·have b5:(r.aX==5)=false:=by simp [h5]
    have Jo:=I h5;clear h5;go_wp2;go_roundw
    case rel=>exact⟨k+1,V,by go_num,hb.alloc _,by rw [nK.o,aV Jo.o];exact dX.o.grow ((aG _).alloc _)⟩
    case measure=>simp [intOf];omega
  ·clear hel
   go_wp2;go_ret;have h9:=bU;rw [eG V] at h9;exact⟨_,rfl,h9,hb⟩
theorem eT (n:Nat):FC n [] (List.replicate n ⟨0,0,0,0⟩):=by
 refine⟨σ,fun k s hs' q a b=>?_⟩;rw [List.getElem?_replicate] at hs';split at hs'
 ·obtain rfl:=bI hs'
  have O:q=0∨q=1∨q=2∨q=3:=by omega
  rcases O with rfl|rfl|rfl|rfl<;>rfl
 ·cases hs'
theorem Core.even {n:Nat} {G:Reg} {hd:Hd} {hs:List Hs} (c:Core n G hd hs) (hall:∀r∈bH hd.bg,∀k∈dB r.aH,OC hs k r.aJ):
  qQ (List.replicate n ⟨0,0,0,0⟩) (bH hd.bg)=(hs.map (·.aP),(bH hd.bg).map fun _=>(0:Int)):=by
 obtain⟨N,Y,h3⟩:=c.all (bH hd.bg) [] _ rfl (eT n);refine Prod.ext ?_ N;refine List.ext_getElem? fun k=>?_;rw [List.getElem?_map];cases hk:(qQ (List.replicate n ⟨0,0,0,0⟩) (bH hd.bg)).1[k]? with
 |none=>
  have:n<=k:=by rw [<-Y];exact List.getElem?_eq_none_iff.1 hk
  rw [List.getElem?_eq_none (by rw [c.len];exact this)];rfl
 |some s=>
  have hlt:k<n:=by rw [<-Y];exact(List.getElem?_eq_some_iff.1 hk).1
  have hl:k<hs.length:=by rw [c.len];exact hlt
  have hh:hs[k]? =some hs[k]:=dM hl;rw [hh];simp only [Option.map_some,Option.some.injEq];refine Sm.ext_get fun q a b=>?_;rw [h3 k s hk q a b,(c.aU k _ hh).add q a b];symm;refine D9 fun r hr hp=>?_;cases hh2:has k q r.aH with
  |false=>exact Fa hh2
  |true=>
   have hw:dO r.aH n=0:=(c.reg.ok _ (c.dec.reg r hr)).2;obtain⟨x,Z,hd'⟩:=hall r hr k (zF hw c.n3' hh2).1;have:x=hs[k]:=by
    rw [show((k:Int)).toNat=k from rfl,hh] at Z;exact(bI Z).symm
   rw [this] at hd';simp [hd'] at hp
theorem HR.low {w0 w W:World} {B:Nat} {vl vo:Value} {lg:List Rc} {L:List AQ} (b:HR w W B vl vo lg L) (h:aK w0 w):HR w0 W B vl vo lg L:=
 have hs:=h.size;⟨(b.bg.mono (kG hs)).base hs,(b.bG.mono (kG hs)).base hs,fun x Z=>(b.aZ x Z).base hs,⟨b.ok.pw,fun q O=>by have:=b.ok.lt q O;omega⟩,h.trans b.grow⟩
section
variable {w W W1 W2:World} {B:Nat} {vl vo vh vn:Value} {x:AW}
theorem iL.low {w0:World} (b:iL w W B vl vo vh vn x) (h:aK w0 w):iL w0 W B vl vo vh vn x:=
 have hs:=h.size;⟨b.row,Nat.le_trans hs b.ge,b.aN.mono (kG hs),(b.hs.mono (kG hs)).base hs,b.ne,b.bM.mono (kG hs),h.trans b.grow⟩
end
def wH:List Pt:=[⟨0,0,7⟩,⟨1,1,8⟩]
structure F12 (L:List St) (X aC:AW) (E:List Int) (K:Nat):Prop where
 l:L=[⟨1,0,wH⟩]
 x:d_ (gK 2) L=X
 e:jK (gK 2) L=E
 e1:E.length=1
 w:WK 1 X
 wy:WK 34000 aC
 i:idleA X=false
 j:idleA aC=true
 y:fD X=(aC,K)
 k:1<=K
 n:aC.aI.length=2
 r:(fQ X).aI.length=2
 a:aC.aI[0]?.map (fun h:Hs=>h.aP.a)=some 7
 b:aC.aI[1]?.map (fun h:Hs=>h.aP.b)=some 8
theorem f12:∃L x y E k,F12 L x y E k:=by
 obtain⟨G,hi,-⟩:=WI.sQ (n:=2) ε [⟨1,0,wH⟩];have hw:=WK.play (n:=2) ε [⟨1,0,wH⟩] ε;obtain⟨O,hs,-⟩:=hi.settle;have Z:idleA (d_ (gK 2) [⟨1,0,wH⟩])=false:=by kernel_rfl
 refine⟨_,d_ (gK 2) [⟨1,0,wH⟩],(fD (d_ (gK 2) [⟨1,0,wH⟩])).1,_,(fD (d_ (gK 2) [⟨1,0,wH⟩])).2,rfl,rfl,rfl,κ,hw,(hw.settle ε).up ε ε,Z,(tC hs).2 O,rfl,?_,hs.core.len,(hi.round).core.len,κ,κ⟩;have h9:fD (d_ (gK 2) [⟨1,0,wH⟩])=((gq 29 (fQ (d_ (gK 2) [⟨1,0,wH⟩]))).1,(gq 29 (fQ (d_ (gK 2) [⟨1,0,wH⟩]))).2+1):=oK 29 Z;rw [h9];exact Nat.le_add_left 1 _
theorem kY (a:Option Addr) (n c:Nat) (v0 v1 v2 v3 v5:Value) (w:World):(Instr.field 33 (.agg #[v0,v1,v2,v3,U a n c,v5]) 1).run Tryz.prog w=.ok (U a n c) w:=by kernel_rfl
theorem BQ {l:List Hs} {j:Nat} {f:Hs->Int} {n:Int} (h:l[j]?.map f=some n):∃x,l[j]? =some x/\f x=n:=by
 cases e:l[j]? with
 |none=>rw [e] at h;cases h
 |some x=>rw [e] at h;exact⟨x,rfl,bI h⟩
theorem sW (w:World):Calls Tryz.prog 32 #[] w fun e w'=>e=.returned (.bool true)/\aK w w':=by
 obtain⟨L,x,y,E,k,hF⟩:=f12;obtain⟨wp,hwp⟩:=χ (w.alloc (.cells #[J 0,J 0,J 7,J 1,J 1,J 8] 111));have uR:Sl Ty.pt wp.cell? (U (some ⟨w,0,none⟩) 2 2) wH:=Sl.lit w [[J 0,J 0,J 7],[J 1,J 1,J 8]] ε (by rw [hwp];exact aG _) rfl rfl (by show 2<=maxLen;decide) rfl ⟨⟨rfl,(show I64 0 from by unfold I64;decide),(show I64 0 from by unfold I64;decide),(show I64 7 from by unfold I64;decide)⟩,⟨rfl,(show I64 1 from by unfold I64;decide),(show I64 1 from by unfold I64;decide),(show I64 8 from by unfold I64;decide)⟩,trivial⟩;obtain⟨wl,hwl⟩:=χ (wp.alloc (.cells #[J 1,J 0,U (some ⟨w,0,none⟩) 2 2] 25));have yj:Sl Ty.st wl.cell? (U (some ⟨w+1,0,none⟩) 1 1) L:=by
  rw [hF.l];exact Sl.lit wp [[J 1,J 0,U (some ⟨w,0,none⟩) 2 2]] ε (by rw [hwl];exact aG _) (by rw [hwp];simp) rfl (by show 1<=maxLen;decide) rfl ⟨⟨_,rfl,(show I64 1 from by unfold I64;decide),(show I64 0 from by unfold I64;decide),uR⟩,trivial⟩
 have GL:Hid (aK w wl):=I (by rw [hwl,hwp];exact((aG w).alloc _).alloc _);have pU:=yP (n:=2) wl ε yj (by rw [hF.l];decide);rw [show((2:Nat):Int)=2 from rfl,hF.x,hF.e] at pU;have pU:=I pU;have HST:=I (fun(W:World) (v:Value) (N:Of Ty.wd W.cell? v x)=>kP W N hF.w ε);rw [hF.y] at HST;have NU:=I (fun(W:World) (v:Value) (N:Of Ty.wd W.cell? v x)=>mQ W N hF.w);have uW:=I (fun(W:World) (v:Value) (N:Of Ty.wd W.cell? v y)=>mQ W N hF.wy);have Yf:=I (fun(W:World) (v:Value) (N:Of Ty.wd W.cell? v x)=>ql W N hF.w ε);rw [hF.i] at NU;rw [hF.j] at uW;obtain⟨g0,h0,s0⟩:=BQ hF.a;obtain⟨g1,N,s1⟩:=BQ hF.b;have u0:(g0.aP.a==7)=true:=by rw [s0];rfl
 have u1:(g1.aP.b==8)=true:=by rw [s1];rfl
 have ue:((E.length:Int)==1)=true:=by rw [hF.e1];rfl
 have uk:decide ((1:Int)<=(k:Int))=true:=by have:=hF.k;simp;omega
 have ur:(((fQ x).aI.length:Int)==2)=true:=by rw [hF.r];rfl
 have un:(1:Int)<(y.aI.length:Int):=by rw [hF.n];decide
 have um:1<y.aI.length:=by rw [hF.n];decide
 have uo:(0:Int)<(y.aI.length:Int):=by rw [hF.n];decide
 have H0:=I h0;have H1:=I N;have HWL:=I hwl;have fX:=I hwp;clear hF h0 N s0 s1 uR yj hwl hwp;generalize fQ x=z at*;go_enter Tryz.func32,Tryz.ntmps32;go_wp2_with fail
 try rw [<-fX.o]
 try rw [<-HWL.o]
 refine pU.o.mono ?_;rintro e w2 ⟨v2,ve,rfl,pV,he2,gB⟩;obtain⟨al,cl,ao,co,ah,ch,an,cn,rfl⟩:=pV.dJ;obtain⟨ae,ce,rfl,-⟩:=he2;have AX:=I (pV.mono (fG _ _));have G2:=I (GL.o.trans gB);clear pV gB pU GL;obtain⟨w3,hwq⟩:=χ (w2.alloc (.cells #[U al x.aN.bg.length cl,J x.aN.aW,J x.aN.next,U ao x.aN.bG.length co,U ah x.aI.length ch,U an x.bM.length cn] 33));obtain⟨B1,lq⟩:=χ w2.heap.size;have AU:Hid (aK w2 w3):=I (by rw [hwq];exact(aG _).alloc _);have R1:Hid (w3.heap[B1]? =some (.cells #[U al x.aN.bg.length cl,J x.aN.aW,J x.aN.next,U ao x.aN.bG.length co,U ah x.aI.length ch,U an x.bM.length cn] 33 (0,0))):=I (by rw [hwq,lq];exact bn _ _);go_upto_region 2 with fail
 rw [<-hwq,<-lq];clear hwq lq;have Dj:=I (AX.o.mono AU.o.sub);obtain⟨a0,a1,a2,a3,a4,a5⟩:=bF R1.o;have za:B1<w3.heap.size:=(γ R1.o);go_wp2_with fail
 refine(HST.o w3 _ Dj.o).mono ?_;rintro e w4 ⟨v4,rfl,FX,qW⟩;obtain⟨N9,N_,JD,JE,Oa,ch4,Ob,Oc,rfl⟩:=FX.dJ;have N8:=I (FX.mono (fG _ _));have xM:=I qW;clear FX qW HST a0 a1 a2 a3 a4 a5 za;obtain⟨w5,hwq⟩:=χ (w4.alloc (.cells #[U N9 y.aN.bg.length N_,J y.aN.aW,J y.aN.next,U JD y.aN.bG.length JE,U Oa y.aI.length ch4,U Ob y.bM.length Oc] 33));obtain⟨B4,lq⟩:=χ w4.heap.size;have Oe:Hid (aK w4 w5):=I (by rw [hwq];exact(aG _).alloc _);have R4:Hid (w5.heap[B4]? =some (.cells #[U N9 y.aN.bg.length N_,J y.aN.aW,J y.aN.next,U JD y.aN.bG.length JE,U Oa y.aI.length ch4,U Ob y.bM.length Oc] 33 (0,0))):=I (by rw [hwq,lq];exact bn _ _);go_upto_region 3 with fail
 rw [<-hwq,<-lq];clear hwq lq;have Wj:=I (xM.o.trans Oe.o);have F5:=I (Dj.o.mono Wj.o.sub);have vD:=I (N8.o.mono Oe.o.sub);have I8:=I (aF R1.o Wj.o);obtain⟨a0,a1,a2,a3,a4,a5⟩:=bF I8.o;obtain⟨b0,b1,b2,b3,b4,b5⟩:=bF R4.o;have za:B1<w5.heap.size:=(γ I8.o);have zb:B4<w5.heap.size:=(γ R4.o);go_wp2_with fail
 refine(NU.o w5 _ F5.o).mono ?_;rintro e w6 ⟨rfl,nS⟩;have tK:=I nS;clear nS a0 a1 a2 a3 a4 a5 b0 b1 b2 b3 b4 b5 za zb;obtain⟨a0,a1,a2,a3,a4,a5⟩:=bF (aF I8.o tK.o);obtain⟨b0,b1,b2,b3,b4,b5⟩:=bF (aF R4.o tK.o);have za:B1<w6.heap.size:=(Array.getElem?_eq_some_iff.1 (aF I8.o tK.o)).1;have zb:B4<w6.heap.size:=(Array.getElem?_eq_some_iff.1 (aF R4.o tK.o)).1;go_wp2_with fail
 refine(uW.o w6 _ (vD.o.mono tK.o.sub)).mono ?_;rintro e w7 ⟨rfl,jQ⟩;have yQ:=I (tK.o.trans jQ);clear jQ a0 a1 a2 a3 a4 a5 b0 b1 b2 b3 b4 b5 za zb;obtain⟨a0,a1,a2,a3,a4,a5⟩:=bF (aF I8.o yQ.o);obtain⟨b0,b1,b2,b3,b4,b5⟩:=bF (aF R4.o yQ.o);have za:B1<w7.heap.size:=(Array.getElem?_eq_some_iff.1 (aF I8.o yQ.o)).1;have zb:B4<w7.heap.size:=(Array.getElem?_eq_some_iff.1 (aF R4.o yQ.o)).1;obtain⟨-,q2,-⟩:=vD.o.ji;obtain⟨aq,cq,heq,-,-,-,hel⟩:=q2;simp only [Value.slice.injEq] at heq;obtain⟨rfl,-,rfl⟩:=heq;obtain⟨bh,oh,cs,rfl,⟨vl9,vr9,vd9,rfl,-⟩,hA0⟩:=hel 0 g0 H0.o;obtain⟨bh',oh',cs,wG,⟨vl8,vr8,vd8,rfl,-⟩,hA1⟩:=hel 1 g1 H1.o;simp only [Option.some.injEq,Addr.mk.injEq,and_true] at wG;obtain⟨rfl,rfl⟩:=wG;have c0:=yQ.o.sub _ _ (hA0 1 _ rfl);have c1:=yQ.o.sub _ _ (hA1 2 _ rfl);have c2:w7.cell? ⟨bh,oh+1,none⟩=some (J g0.aP.a):=by simpa using c0
 have c3:w7.cell? ⟨bh,oh+7+1+1,none⟩=some (J g1.aP.b):=by simpa [show Ty.hs.size=7 from rfl] using c1
 have c4:w7.cell? ⟨bh,oh+9,none⟩=some (J g1.aP.b):=c3;clear hel hA0 hA1 c0 c1;go_wp2_with fail
 refine(Yf.o w7 _ (F5.o.mono yQ.o.sub)).mono ?_;rintro e w8 ⟨v8,rfl,vE,lD⟩;obtain⟨SS,SV,SX,SY,ah8,ch8,an8,cn8,rfl⟩:=vE.dJ;have G8:=I (G2.o.trans (AU.o.trans (Wj.o.trans (yQ.o.trans lD))));clear vE lD a0 a1 a2 a3 a4 a5 b0 b1 b2 b3 b4 b5 za zb c2 c3 c4;have hfn:=kY;go_wp2;go_ret;exact⟨rfl,G8.o⟩
theorem xF {v:Value} {x:AW} (w:World) (hv:Of Ty.wd w.cell? v x) (hl:x.aI.length<=3):
  Calls Tryz.prog 36 #[v] w fun e w'=>∃v',e=.returned v'/\bK Ty.sm (fun _=>none) w' w.heap.size 47 v' (x.aI.map (·.aP))/\aK w w':=by
 obtain⟨al,cl,ao,co,ah,ch,an,cn,rfl⟩:=hv.dJ;obtain⟨-,q2,-⟩:=hv.ji;obtain⟨AN,ch',wG,N,Y,-,hel⟩:=q2;simp only [Value.slice.injEq,true_and] at wG;obtain⟨rfl,rfl⟩:=wG;unfold maxLen at Y;clear hv;obtain⟨wa,fZ⟩:=χ (w.alloc (.cells #[U al x.aN.bg.length cl,J x.aN.aW,J x.aN.next,U ao x.aN.bG.length co,U ah x.aI.length ch,U an x.bM.length cn] 33));have R1:Hid (wa.heap[w.heap.size]? =some (.cells #[U al x.aN.bg.length cl,J x.aN.aW,J x.aN.next,U ao x.aN.bG.length co,U ah x.aI.length ch,U an x.bM.length cn] 33 (0,0))):=I (by rw [fZ];exact bn _ _);have G1:Hid (aK w wa):=I (by rw [fZ];exact(aG w).alloc _);have HZ:Hid (wa.heap.size=w.heap.size+1):=I (by rw [fZ];simp);have uE:=I fZ;clear fZ;go_enter Tryz.func36,Tryz.ntmps36;go_upto_region 1 with fail
 rw [<-uE.o];clear uE;obtain⟨c0,c1,c2,c3,c4,c5⟩:=bF R1.o;have z1:w.heap.size<wa:=(γ R1.o);go_wp2;clear c0 c1 c2 c3 c4 c5;go_loopw [3,9] (fun s3 i wr=>∃k:Nat,k<=x.aI.length/\i=J k/\aK wa wr/\bK Ty.sm (fun _=>none) wr (w.heap.size+1) 47 s3 ((x.aI.take k).map (·.aP))) (fun _ i _=>x.aI.length - (intOf i).toNat)
 case atStart=>exact⟨0,V,rfl,aG _,bK.nil _ _ _ _ _⟩
 case round=>
  obtain⟨k,hk',rfl,hb,how⟩:=hrel;obtain⟨a3,A3H,rfl⟩:=how.form;have HO:=I how;have HB:=I hb;have GB:=I (G1.o.trans hb);clear how hb;by_cases hlt:k<x.aI.length
  ·obtain⟨bh,oh,vl,vr,vd,rfl,e0,e1,e2,e3,e4,e5,e6,yu,s1,s2,s3,s4,Ar,xk⟩:=VW.at_ hel k hlt
   obtain⟨il,jl,rfl,-⟩:=id yu;obtain⟨ir,jr,rfl,-⟩:=id Ar;obtain⟨yX,jd,rfl,-⟩:=id xk;have og:=I (FI (fun h:Hs=>h.aP) hlt);have Gv:=I (And.intro s1 (And.intro s2 (And.intro s3 s4)));have Et:Hid (((x.aI.take k).map (·.aP)).length<=3):=I (by rw [List.length_map,List.length_take];omega);replace e0:=GB.o.sub _ _ e0;replace e1:=GB.o.sub _ _ e1;replace e2:=GB.o.sub _ _ e2;replace e3:=GB.o.sub _ _ e3;replace e4:=GB.o.sub _ _ e4;replace e5:=GB.o.sub _ _ e5;replace e6:=GB.o.sub _ _ e6;clear hel yu Ar xk s1 s2 s3 s4;generalize x.aI[k]=h at*;generalize (x.aI.take k).map (·.aP)=ss at*;go_upto_region 5 with fail
   obtain⟨wo,hwo⟩:=χ (wr.alloc (.cells #[U il h.bg.length jl,J h.aP.a,J h.aP.b,J h.aP.c,J h.aP.d,U ir h.ready.length jr,U yX h.done.length jd] 50));obtain⟨BO,Aq⟩:=χ wr.heap.size;have GO:Hid (aK wr wo):=I (by rw [hwo];exact(aG _).alloc _);have RO:Hid (wo.heap[BO]? =some (.cells #[U il h.bg.length jl,J h.aP.a,J h.aP.b,J h.aP.c,J h.aP.d,U ir h.ready.length jr,U yX h.done.length jd] 50 (0,0))):=I (by rw [hwo,Aq];exact bn _ _);rw [<-hwo,<-Aq];clear hwo Aq e0 e1 e2 e3 e4 e5 e6;obtain⟨f0,f1,f2,f3,f4,f5,f6⟩:=bZ RO.o;have zO:BO<wo.heap.size:=(γ RO.o);go_wp2_with (first|(at_builtin;refine cO (c:=fun _=>none) (base:=w.heap.size+1) (l:=ss) (m:=[h.aP]) PF rfl Zg ε rfl (.tmp 13) (.tmp 16) rfl rfl ((HO.o.grow GO.o).grow ((aG _).alloc _)) rfl (Src.dU (T:=Ty.sm) (x:=h.aP) (cs:=#[J h.aP.a,J h.aP.b,J h.aP.c,J h.aP.d]) ⟨rfl,Gv.o.1,Gv.o.2.1,Gv.o.2.2.1,Gv.o.2.2.2⟩ _ _ ?d1) ?d2 ?d3 ?_))
   case d1=>first|rfl|simp
   case d2=>have:=Et.o;simp;omega
   case d3=>have:=HB.o.size;have:=GO.o.size;have:=HZ.o;simp;omega
   intro a9 c9 w9 gX fV iE;have kR:Hid (aK wa w9):=I (dI (w0:=wa) ((HB.o.trans GO.o).alloc _) fV (fun q O=>by have:=(HO.o.lt q O).1;have:=HZ.o;omega));have jE:=I gX;clear gX fV iE f0 f1 f2 f3 f4 f5 f6 zO;go_wp2;go_roundw
   case rel=>exact⟨k+1,V,by go_num,kR.o,by rw [og.o];exact jE.o⟩
   case measure=>simp [intOf];omega
  ·have TC:Hid ((x.aI.take k).map (·.aP)=x.aI.map (·.aP)):=I (by rw [eG V])
   clear hel;obtain⟨ss,hss⟩:=χ (x.aI.map (·.aP));rw [TC.o,<-hss] at HO ⊢;have HSS:=I hss;clear TC hss;go_wp2;go_ret;exact⟨_,rfl,by rw [<-HSS.o];exact HO.o.base (Nat.le_succ _),GB.o⟩
theorem OW {n0:Int} {v:Value} {l:List St} (w:World) (_hn:I64 n0) (hv:Sl Ty.st w.cell? v l) (_hs:l.length*40<=140737488351232):
  Calls Tryz.prog 10 #[J n0,v] w fun e w'=>e=.returned (.bool true)/\aK w w':=by
 obtain⟨av,cv,rfl,-⟩:=id hv;by_cases hin:1<=n0/\n0<=3;rotate_left
 ·have t:(decide (n0<1)=true∨(decide (n0<1)=false/\decide (3<n0)=true)):=by
   by_cases h:n0<1
   ·left;simp [h]
   ·right;simp;omega
  clear hv hin;go_enter Tryz.func10,Tryz.ntmps10;go_wp2_with fail
  refine(sW _).mono ?_;rintro e w1 ⟨rfl,dZ⟩;rcases t with t|⟨t1,t2⟩
  all_goals
   go_wp2;go_ret;exact⟨rfl,dZ⟩
 obtain⟨n,rfl⟩:∃n:Nat,n0=(n:Int):=⟨n0.toNat,V⟩;have hn:1<=n/\n<=3:=by omega
 have tn1:decide ((n:Int)<1)=false:=by simp;omega
 have tn3:decide ((3:Int)<(n:Int))=false:=by simp;omega
 obtain⟨G,hwi,-⟩:=WI.sQ hn (l.take 150);have YZ:(l.take 150).length<=150:=by rw [List.length_take];omega
 have hwk:=(WK.play hn (l.take 150) V).up (k':=150) YZ ε;obtain⟨v_,XV,hsn⟩:=hwi.settle;have hwy:=(hwk.settle ε).up (k':=33150) ε ε;have pU:=I (fun(W:World) (hW:aK w W)=>BJ (l:=l) W hn (hv.mono hW.sub));have HST:=I (fun(W:World) (v:Value) (N:Of Ty.wd W.cell? v (d_ (gK n) (l.take 150)))=>kP W N hwk ε);have HY3:=I hwy.I5.2;have HYL:Hid ((fD (d_ (gK n) (l.take 150))).1.aN.bg.length<=99000):=I (τ hwy.few.bg);have HN:=I hn;have AD:=I (XV.core.even (XV.core.settled v_.bG));have HDW:Hid (∀r∈bH (fD (d_ (gK n) (l.take 150))).1.aN.bg,dO r.aH n=0):=I (fun r hr=>(XV.core.reg.ok _ (XV.core.dec.reg r hr)).2);clear hv hin hn hwi hwk YZ v_ XV hwy;generalize d_ (gK n) (l.take 150)=x at*;generalize fD x=sx at*;obtain⟨y,ks⟩:=sx;dsimp only at*;go_enter Tryz.func10,Tryz.ntmps10;go_wp2_with fail
 refine(sW _).mono ?_;rintro e w1 ⟨rfl,dZ⟩;have G1:=I dZ;clear dZ;go_wp2_with fail
 refine(pU.o _ G1.o).mono ?_;rintro e w2 ⟨v2,es2,rfl,pV,-,gB⟩;obtain⟨al,cl,ao,co,ah,ch,an,cn,rfl⟩:=pV.dJ;have AX:=I pV;have G2:=I (G1.o.trans gB);clear pV gB pU tn1 tn3;obtain⟨w3,hwq⟩:=χ (w2.alloc (.cells #[U al x.aN.bg.length cl,J x.aN.aW,J x.aN.next,U ao x.aN.bG.length co,U ah x.aI.length ch,U an x.bM.length cn] 33));obtain⟨B5,lq⟩:=χ w2.heap.size;have AU:Hid (aK w2 w3):=I (by rw [hwq];exact(aG _).alloc _);have R5:Hid (w3.heap[B5]? =some (.cells #[U al x.aN.bg.length cl,J x.aN.aW,J x.aN.next,U ao x.aN.bG.length co,U ah x.aI.length ch,U an x.bM.length cn] 33 (0,0))):=I (by rw [hwq,lq];exact bn _ _);go_upto_region 6 with fail
 rw [<-hwq,<-lq];clear hwq lq;obtain⟨a0,a1,a2,a3,a4,a5⟩:=bF R5.o;have za:B5<w3.heap.size:=(γ R5.o);go_wp2_with fail
 refine(HST.o w3 _ (AX.o.mono AU.o.sub)).mono ?_;rintro e w4 ⟨v4,rfl,FX,qW⟩;obtain⟨N9,N_,JD,JE,Oa,ch4,Ob,Oc,rfl⟩:=FX.dJ;have N8:=I (FX.mono (fG _ _));have xM:=I (G2.o.trans (AU.o.trans qW));clear FX qW HST a0 a1 a2 a3 a4 a5 za AX R5;obtain⟨w5,hwq⟩:=χ (w4.alloc (.cells #[U N9 y.aN.bg.length N_,J y.aN.aW,J y.aN.next,U JD y.aN.bG.length JE,U Oa y.aI.length ch4,U Ob y.bM.length Oc] 33));obtain⟨B7,lq⟩:=χ w4.heap.size;have Oe:Hid (aK w4 w5):=I (by rw [hwq];exact(aG _).alloc _);have R7:Hid (w5.heap[B7]? =some (.cells #[U N9 y.aN.bg.length N_,J y.aN.aW,J y.aN.next,U JD y.aN.bG.length JE,U Oa y.aI.length ch4,U Ob y.bM.length Oc] 33 (0,0))):=I (by rw [hwq,lq];exact bn _ _);go_upto_region 7 with fail
 rw [<-hwq,<-lq];clear hwq lq;have H7:=I (N8.o.mono Oe.o.sub);have GB:=I (xM.o.trans Oe.o);obtain⟨a0,a1,a2,a3,a4,a5⟩:=bF R7.o;have za:B7<w5.heap.size:=(γ R7.o);clear N8;have YE:=I (fun(W:World) (v:Value) (N:Of Ty.wd W.cell? v y)=>xF W N HY3.o);generalize y.aI.map (·.aP)=Q at*;obtain⟨q1,-,-⟩:=H7.o.ji;have G_:=I (Of.lM q1).1;clear q1;go_wp2_with fail
 refine(tX (c:=World.cell? w5) _ (Sub.refl _) G_.o (τ HYL.o)).mono ?_;rintro e w6 ⟨v6,rfl,tZ,nS⟩;have DD:=I (tZ.sl ε nS.sub);obtain⟨a6,c6,rfl⟩:=tZ.form;have tK:=I nS;have hdl:(bH y.aN.bg).length<=99000:=by have:=HYL.o;unfold bH;rw [List.length_map];exact Nat.le_trans (List.length_filter_le _ _) this
 clear tZ nS a0 a1 a2 a3 a4 a5 za;go_wp2_with fail
 refine(K8 w6 HN.o DD.o HDW.o V).mono ?_;rw [AD.o];rintro e w7 ⟨v7,u7,rfl,hs7,he7,jQ⟩;dsimp only at hs7 he7;have Ko:=I hs7;have yQ:=I (tK.o.trans jQ);obtain⟨as7,cs7,rfl,-⟩:=id hs7;obtain⟨ae,ce,rfl,hc1,hc2,-,hel⟩:=he7;unfold maxLen at hc2;have nH:=I hel;have HZ:Hid (∀k (h:k<((bH y.aN.bg).map fun _=>(0:Int)).length),((bH y.aN.bg).map fun _=>(0:Int))[k]=0):=I (fun k h=>σ);clear hs7 jQ hel AD hdl;generalize ((bH y.aN.bg).map fun _=>(0:Int))=ak at*;go_wp2;go_loopw [43] (fun i wr=>∃k:Nat,k<=ak.length/\i=J k/\aK w7 wr) (fun i _=>ak.length - (intOf i).toNat)
 case atStart=>exact⟨0,V,rfl,aG _⟩
 case round=>
  obtain⟨k,hk',rfl,hgr⟩:=hrel;have HG:=I hgr;clear hgr;by_cases hlt:k<ak.length
  ·obtain⟨bd,od,rfl,t0,-⟩:=xu nH.o k hlt
   replace t0:=HG.o.sub _ _ t0;rw [HZ.o k hlt] at t0;go_wp2;go_roundw
   case rel=>exact⟨k+1,V,by go_num,HG.o⟩
   case measure=>simp [intOf];omega
  ·have G5r:=I (yQ.o.trans HG.o)
   obtain⟨a0,a1,a2,a3,a4,a5⟩:=bF (aF R7.o G5r.o);have za:B7<wr.heap.size:=(Array.getElem?_eq_some_iff.1 (aF R7.o G5r.o)).1;go_wp2_with fail
   refine(YE.o wr _ (H7.o.mono G5r.o.sub)).mono ?_;rintro e w8 ⟨v8,rfl,nT,lD⟩;have t_:=I (nT.sl ε (fun _ _ e=>by cases e));obtain⟨a8,c8,rfl⟩:=nT.form;have G8:=I lD;clear nT lD a0 a1 a2 a3 a4 a5 za;go_wp2_with fail
   refine(SC w8 t_.o (Ko.o.mono (HG.o.trans G8.o).sub)).mono ?_;have hde:decide (Q=Q)=true:=decide_eq_true rfl;rw [hde];rintro e w9 ⟨rfl,iE⟩;have G9:=I (GB.o.trans (G5r.o.trans (G8.o.trans iE)));clear iE;go_wp2;go_ret;exact⟨rfl,G9.o⟩
end Go.Proofs.YtocnmkefmgmkbaaGreat
namespace Go.Proofs.YtocnmkefmgmkbaaGreat
open Go.RowKit Go.ChangeShapes Go.WideShapes Go.ChangeAt
def Reads {α:Type} (P:Program) (t:TypeId) (T:Ty α):Prop:=∀(H:Type) (enc:TypeId×Value->H) (W:World) (fuel:Nat) (cs:List Value) (x:DataW H×List MemPlace),
 DataW.trod enc P W 0 (fun _=>true) true fuel t cs=some x->∃y,T.R W.cell? cs y
theorem gY {P:Program} {t:TypeId} (ht:P.underlying t=some (.int .i64)):Reads P t Ty.int:=by
 intro H enc W fuel cs x h;obtain⟨n,rfl,_,hw⟩:=DataW.trod_int ht h;exact⟨n,rfl,hw⟩
theorem oL {α:Type} {P:Program} {t e:TypeId} {T:Ty α} (hR:Reads P e T) (ht:P.underlying t=some (.slice e)) (hc:P.cellsOf e=T.size) (h0:0<T.size):Reads P t T.sl:=by
 intro H enc W fuel cs x h;rcases Deep.open_slice ht h with⟨rfl,_⟩|⟨a,len,cap,m,n,D,Pl,rfl,_,hl,hm,hmm,hxe,Z⟩
 ·exact⟨[],_,rfl,none,0,rfl,Nat.le_refl _,Nat.zero_le _,fun _=>rfl,fun i x e=>by simp at e⟩
 ·simp only [if_true] at hmm
  subst m;have Y:∀i,i<len->∃(p:List Value×α),T.R W.cell? p.1 p.2/\W.cells? 0 (a.add (i*T.size)) T.size=some p.1:=by
   intro i hi;obtain⟨cs',N,Y⟩:=Z i V;obtain⟨y,hy⟩:=hR H enc W n cs' _ Y;rw [hc] at N;exact⟨(cs',y),hy,N⟩
  have h3:∃l:List α,l.length=len/\∀i y,l[i]? =some y->∃cs',T.R W.cell? cs' y/\W.cells? 0 (a.add (i*T.size)) T.size=some cs':=by
   clear Z hl h hxe;induction len with
   |zero=>exact⟨[],rfl,σ⟩
   |succ len ih=>
    obtain⟨l,hl,hi⟩:=ih (by intro i hi;exact Y i V);obtain⟨⟨cs',y⟩,hy,N⟩:=Y len V;refine⟨l++ [y],by simp [hl],fun i z hz=>?_⟩;rcases Nat.lt_or_ge i l.length with hlt|hge
    ·rw [List.getElem?_append_left hlt] at hz;exact hi i z hz
    ·have hb:=(List.getElem?_eq_some_iff.1 hz).1
     simp at hb;obtain rfl:i=len:=by omega
     rw [List.getElem?_append_right hge,hl] at hz;simp at hz;subst hz;exact⟨cs',hy,N⟩
  obtain⟨l,hlen,hl2⟩:=h3;refine⟨l,_,rfl,some a,cap,by rw [hlen],V,hm,σ,fun i y hy=>?_⟩;obtain⟨cs',hR',hcs⟩:=hl2 i y hy;obtain⟨_,hlen',hat⟩:=World.cells?_some hcs;have hpos:0<l.length:=by have:=(List.getElem?_eq_some_iff.1 hy).1;omega
  obtain⟨cs0,_,hcs0⟩:=hl2 0 l[0] (dM hpos);obtain⟨_,hlen0,XW⟩:=World.cells?_some hcs0;have hfirst:=XW 0 h0;rw [dM V] at hfirst;have hsp:=World.cell?_spot hfirst;obtain⟨b,o,s⟩:=a;have hs:s=none:=by simpa [Addr.add] using hsp
  subst hs;refine⟨b,o,cs',rfl,hR',fun j u hu=>?_⟩;have hj:j<T.size:=by rw [<-hlen'];exact(List.getElem?_eq_some_iff.1 hu).1
  have:=hat j hj;rw [Addr.add_lit,Addr.add_lit,hu] at this;exact this
def structOf (P:Program) (t:TypeId):Option (List (TypeId×Nat×Nat)):=
 match P.underlying t with
 |some (.struct fs)=>some (fs.toList.map fun f=>(f.type,f.offset,P.cellsOf f.type))
 |_=>none
theorem jk {P:Program} {t:TypeId} {fs':List (TypeId×Nat×Nat)} (hs:structOf P t=some fs') {H:Type} {enc:TypeId×Value->H} {W:World} {fuel:Nat} {cs:List Value} {x:DataW H×List MemPlace}
  (h:DataW.trod enc P W 0 (fun _=>true) true fuel t cs=some x):cs.length=P.cellsOf t/\∀(i:Nat) (f:TypeId×Nat×Nat),fs'[i]? =some f->∃n y,DataW.trod enc P W 0 (fun _=>true) true n f.1 ((cs.drop f.2.1).take f.2.2)=some y:=by
 unfold structOf at hs;split at hs
 ·rename_i fs hu
  obtain rfl:=bI hs;obtain⟨xs,n,_,_,hl,hlen,hf⟩:=DataW.trod_struct hu h;refine⟨hl,fun i f hi=>?_⟩;rw [List.getElem?_map] at hi;cases hfi:fs.toList[i]? with
  |none=>rw [hfi] at hi;cases hi
  |some fd=>
   rw [hfi] at hi;obtain rfl:=bI hi;have NP:fs[i]? =some fd:=by simpa using hfi
   have hlt:i<xs.length:=by rw [hlen];exact(Array.getElem?_eq_some_iff.1 NP).1
   have:=hf i fd NP;rw [dM hlt] at this;exact⟨n,_,this⟩
 ·cases hs
theorem wJ:Reads Tryz.prog 111 Ty.pt:=by
 intro H enc W fuel cs x h;obtain⟨hl,hf⟩:=jk (fs':=[(3,0,1),(3,1,1),(3,2,1)]) κ h;rw [show(Tryz.prog).cellsOf 111=3 by kernel_rfl] at hl;match cs,hl with
 | [a,b,c],_=>
  obtain⟨_,_,h0⟩:=hf 0 _ rfl;obtain⟨_,_,N⟩:=hf 1 _ rfl;obtain⟨_,_,Y⟩:=hf 2 _ rfl;obtain⟨x0,e0,w0⟩:=gY κ _ _ _ _ _ _ h0;obtain⟨x1,e1,w1⟩:=gY κ _ _ _ _ _ _ N;obtain⟨x2,e2,w2⟩:=gY κ _ _ _ _ _ _ Y;refine⟨⟨x0,x1,x2⟩,?_,w0,w1,w2⟩;simp at e0 e1 e2;subst e0 e1 e2;rfl
theorem sJ:Reads Tryz.prog 23 Ty.pts:=oL wJ κ κ ε
theorem EF {α:Type} {P:Program} {t e:TypeId} {T:Ty α} (hR:Reads P t T.sl) (ht:P.underlying t=some (.slice e)) {H:Type} {enc:TypeId×Value->H} {W:World} {r:Reach} {b:Nat} {v:Value} {d:DataW H} {p:List MemPlace}
  (hval:Value.okWide P W r b t v) (h:DataW.Trod enc P W 0 (fun _=>true) true t v d p):∃l,Sl T W.cell? v l:=by
 obtain⟨a,len,cap,rfl⟩:=okWide_slice ht hval;obtain⟨fuel,hf⟩:=h;obtain⟨l,v,e,hv⟩:=hR _ _ _ _ _ _ hf;simp [Value.cells] at e;subst e;exact⟨l,hv⟩
theorem own:ownKnob (Tryz.prog).godebug=none:=by kernel_rfl
theorem laidOut:laidOutB Tryz.prog=true:=by kernel_rfl
end Go.Proofs.YtocnmkefmgmkbaaGreat
namespace Go.Proofs.YtocnmkefmgmkbaaGreat
open Go.RowKit Go.ChangeShapes Go.WideShapes Go.ChangeAt
theorem EG {α:Type} {T:Ty α} {c:CM} {a:Option Addr} {n cap:Nat} {l:List α} (h:Sl T c (U a n cap) l):l.length=n:=by
 obtain⟨a',cap',he,_⟩:=h;simp only [Value.slice.injEq] at he;exact he.2.1.symm
theorem wK {α:Type} {P:Program} {t e:TypeId} {T:Ty α} {k:Nat} (ht:P.underlying t=some (.slice e)) (hb:P.bytesOf e=k) {H:Type} {enc:TypeId×Value->H} {W:World} {r:Reach} {b:Nat} {v:Value} {d:DataW H} {p:List MemPlace} {ts:List TypeId} {ds:List (DataW H)} {j:Nat}
  (hsz:(DataW.weightsEach P ts ds).all (· <=reachBytes)=true) (hj:ts[j]? =some t) (hd:ds[j]? =some d)
  (hval:Value.okWide P W r b t v) (h:DataW.Trod enc P W 0 (fun _=>true) true t v d p) {l:List α} (hl:Sl T W.cell? v l):l.length*k<=140737488351232:=by
 obtain⟨a,len,cap,rfl⟩:=okWide_slice ht hval;obtain⟨fuel,hf⟩:=h;have hll:=EG hl;rcases Deep.open_slice ht hf with⟨he,_⟩|⟨a',len',cap',m,n,D,Pl,he,_,hlc,_,hmm,hxe,_⟩
 ·simp [Value.cells] at he
  rw [hll,he.2.1];simp
 ·simp [Value.cells] at he
  obtain⟨_,rfl,rfl⟩:=he;obtain rfl:d=.slice ((List.range len).map D) ((List.range (m - len)).map fun j=>D (len+j)):=by simpa using congrArg Prod.fst hxe
  have:=sized_slice hsz hj hd ht;rw [hb,List.length_map,List.length_range] at this;rw [hll];have Y:len*k<=(len+((List.range (m - len)).map fun j=>D (len+j)).length)*k:=Nat.mul_le_mul_right _ (Nat.le_add_right _ _);have h3:reachBytes=140737488351232:=rfl;omega
theorem wL:Reads Tryz.prog 25 Ty.st:=by
 intro H enc W fuel cs x h;obtain⟨hl,hf⟩:=jk (fs':=[(3,0,1),(3,1,1),(23,2,1)]) κ h;rw [show(Tryz.prog).cellsOf 25=3 by kernel_rfl] at hl;match cs,hl with
 | [a,b,c],_=>
  obtain⟨_,_,h0⟩:=hf 0 _ rfl;obtain⟨_,_,N⟩:=hf 1 _ rfl;obtain⟨_,_,Y⟩:=hf 2 _ rfl;obtain⟨x0,e0,w0⟩:=gY κ _ _ _ _ _ _ h0;obtain⟨x1,e1,w1⟩:=gY κ _ _ _ _ _ _ N;obtain⟨x2,v2,e2,w2⟩:=sJ _ _ _ _ _ _ Y;refine⟨⟨x0,x1,x2⟩,v2,?_,w0,w1,w2⟩;simp at e0 e1 e2;subst e0 e1 e2;rfl
theorem sK:Reads Tryz.prog 22 (Ty.sl Ty.st):=oL wL κ κ ε
end Go.Proofs.YtocnmkefmgmkbaaGreat
