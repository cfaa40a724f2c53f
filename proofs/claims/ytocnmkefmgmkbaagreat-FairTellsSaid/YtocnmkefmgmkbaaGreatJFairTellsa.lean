/- Parts of proofs, joined: P4, E1, Str, Z2, E2, M6, E4, U7, U11, U20, G2, G13, G19, G21, U27, G35, G36, E3, G26, G34, K35, Trod, Trod2, Trod3. No condition beside those that each theorem names. -/
import Derived.Laws.BytesArg
import Derived.Lib.SlBytesRow
import Derived.Deep.Slices
import Derived.OpenShut
import Derived.Below
import Derived.ChangeOld
import Derived.ProofKit
import Derived.SizedLaws
import Derived.Test.YtocnmkefmgmkbaaGreatJE1b
import Derived.Test.YtocnmkefmgmkbaaGreatJE6a
import Derived.Test.YtocnmkefmgmkbaaGreatJE4b
import Derived.Test.YtocnmkefmgmkbaaGreatJEUa
import Derived.Test.YtocnmkefmgmkbaaGreatJEHa
import Derived.Test.YtocnmkefmgmkbaaGreatJE7b
import Derived.Test.YtocnmkefmgmkbaaGreatJEDa
import Derived.Test.YtocnmkefmgmkbaaGreatJE9a
import Derived.Test.YtocnmkefmgmkbaaGreatJE3a
import Derived.Test.YtocnmkefmgmkbaaGreatJE2a
import Derived.Test.YtocnmkefmgmkbaaGreatJEGa
import Derived.Test.YtocnmkefmgmkbaaGreatJE5a
import Derived.Test.YtocnmkefmgmkbaaGreatJEAa
set_option maxRecDepth 100000
set_option maxHeartbeats 40000000
namespace Go.Proofs.YtocnmkefmgmkbaaGreat
open Go.RowKit
theorem NQ:Tryz.prog.eqGuardType Tryz.prog.depth 111=false:=by kernel_rfl
theorem XY (p q:Pt) (w:World):(binOp .eql 111 (.agg #[J p.h,J p.k,J p.n]) (.agg #[J q.h,J q.k,J q.n])).run Tryz.prog w=.ok (.bool (decide (p=q))) w:=by
 have u3:=Tryz.underlying3;have a3:=Tryz.isAgg3;have z3:=Tryz.sizeOf3;have hS:Tryz.prog.underlying 111=some (.struct (Tryz.prog.fieldsOf 111)):=by kernel_rfl
 have hp:Tryz.prog.stoodInHeld 111=false:=by kernel_rfl
 rw [run_eql_struct,show(10000:Nat)=9999+1 from rfl,run_equalIn_agg w 9999 111 _ _ hS hp];simp only [Program.fieldsOf,Tryz.underlying111];obtain⟨a,b,c⟩:=p;obtain⟨a',b',c'⟩:=q;go_simp;by_cases N:a=a'<;>by_cases Y:b=b'<;>by_cases h3:c=c'<;>simp [N,Y,h3]
theorem XZ (p q:Pt) (w:World):(binOp .neq 111 (.agg #[J p.h,J p.k,J p.n]) (.agg #[J q.h,J q.k,J q.n])).run Tryz.prog w=.ok (.bool (!decide (p=q))) w:=by
 have h:=XY p q w;rw [run_eql_struct] at h;rw [run_neq_struct];cases hr:(Op.equalIn 10000 111 (.agg #[J p.h,J p.k,J p.n]) (.agg #[J q.h,J q.k,J q.n])).run Tryz.prog w with
 |ok b w'=>rw [hr] at h;simp only [Result.andThen_ok,Result.ok.injEq,Value.bool.injEq] at h ⊢;exact⟨by rw [h.1],h.2⟩
 |halt x w'=>rw [hr] at h;simp [Result.andThen] at h
theorem lS {v v':Value} {l l':List Pt} (w:World) (hv:pX w.cell? v l) (hv':pX w.cell? v' l'):
  Calls Tryz.prog 62 #[v,v'] w fun e w'=>e=.returned (.bool (decide (l=l')))/\aK w w':=by
 obtain⟨a,cap,rfl,N,Y,-,hel⟩:=hv;obtain⟨a',cap',rfl,h1',h2',-,iH⟩:=hv';unfold maxLen at Y h2';by_cases hlen:l.length=l'.length
 ·have hb:((l.length:Int) !=l'.length)=false:=by simp [hlen]
  have HL:=I hlen;clear hlen;go_enter Tryz.func62,Tryz.ntmps62;go_wp2;go_loopw [4,5,13] (fun _ _ i wr=>∃k:Nat,k<=l.length/\i=J k/\aK w wr/\∀j,j<k->l[j]? =l'[j]?) (fun _ _ i _=>l.length - (intOf i).toNat)
  case atStart=>exact⟨0,V,rfl,je,fun j h=>V⟩
  case round=>
   obtain⟨k,hk',rfl,hb,hE⟩:=hrel;have HE:=I hE;clear hE;by_cases hlt:k<l.length
   ·have hlt':k<l'.length:=by have:=HL.o;omega
    obtain⟨b,o,rfl,c0,c1,c2,-,-,-⟩:=pX.at_ hel k hlt;obtain⟨b',o',rfl,c0',c1',c2',-,-,-⟩:=pX.at_ iH k hlt';replace c0:=hb.sub _ _ c0;replace c1:=hb.sub _ _ c1;replace c2:=hb.sub _ _ c2;replace c0':=hb.sub _ _ c0';replace c1':=hb.sub _ _ c1';replace c2':=hb.sub _ _ c2';clear hel iH;generalize hp:l[k]=p at*;generalize hp':l'[k]=p' at*;have HP:=I hp;have HP':=I hp';clear hp hp';have hg:=NQ;have HN:∀w,(binOp .neq 111 (.agg #[J p.h,J p.k,J p.n]) (.agg #[J p'.h,J p'.k,J p'.n])).run Tryz.prog w=.ok (.bool (!decide (p=p'))) w:=fun w=>XZ p p' w;by_cases hpp:p=p'
    ·simp only [hpp,decide_true,Bool.not_true] at HN
     have HQ:=I hpp;subst hpp;go_wp2_with (go_quiet (fail))
     go_roundw
     case rel=>exact⟨k+1,V,by go_num,je,fun j hj=>by
      by_cases h:j=k
      ·subst h;rw [dM hlt,dM hlt',HP.o,HP'.o]
      ·exact HE.o j V⟩
     case measure=>simp [intOf];omega
    ·simp only [hpp,decide_false,Bool.not_false] at HN
     have HQ:=I hpp;clear hpp;go_wp2_with (go_quiet (fail))
     go_ret;exact⟨dA (by
      rw [eq_comm,decide_eq_false_iff_not];rintro rfl;exact HQ.o (by rw [<-HP.o,<-HP'.o])),je⟩
   ·clear hel iH
    go_wp2;go_ret;refine⟨dA ?_,hb⟩;rw [eq_comm,decide_eq_true_eq];apply List.ext_getElem?;intro j;by_cases h:j<k
    ·exact HE.o j h
    ·rw [List.getElem?_eq_none V,List.getElem?_eq_none (τ HL.o)]
 ·have hb:((l.length:Int) !=l'.length)=true:=by simp;omega
  have hE:decide (l=l')=false:=by rw [decide_eq_false_iff_not];rintro rfl;exact hlen rfl
  have HE:=I hE;clear hlen hE hel iH;go_enter Tryz.func62,Tryz.ntmps62;go_wp2;go_ret;exact⟨dA HE.o.symm,je⟩
theorem mV {α:Type} {l l':List α} {k:Nat} (hl:l.length=l'.length) (hk:l.length<=k) (h:∀j,j<k->l[j]? =l'[j]?):l=l':=by
 apply List.ext_getElem?;intro j;by_cases hj:j<k
 ·exact h j hj
 ·rw [List.getElem?_eq_none V,List.getElem?_eq_none V]
theorem kU {α:Type} {l l':List α} {k:Nat} (N:k<l.length) (Y:k<l'.length) (h:∀j,j<k->l[j]? =l'[j]?) (he:l[k]=l'[k]):∀j,j<k+1->l[j]? =l'[j]?:=by
 intro j hj;by_cases e:j=k
 ·subst e;rw [dM N,dM Y,he]
 ·exact h j V
theorem oM {α:Type} [DecidableEq α] {l l':List α} {k:Nat} (N:k<l.length) (Y:k<l'.length) (he:¬l[k]=l'[k]):decide (l=l')=false:=by
 rw [decide_eq_false_iff_not];rintro rfl;exact he rfl
theorem rD {v v':Value} {l l':List Int} (w:World) (hv:Ints w.cell? v l) (hv':Ints w.cell? v' l'):
  Calls Tryz.prog 64 #[v,v'] w fun e w'=>e=.returned (.bool (decide (l=l')))/\aK w w':=by
 obtain⟨a,cap,rfl,N,Y,-,hel⟩:=hv;obtain⟨a',cap',rfl,h1',h2',-,iH⟩:=hv';unfold maxLen at Y h2';by_cases hlen:l.length=l'.length
 ·have hb:((l.length:Int) !=l'.length)=false:=by simp [hlen]
  have HL:=I hlen;clear hlen;go_enter Tryz.func64,Tryz.ntmps64;go_wp2;go_loopw [4,5,13] (fun _ _ i wr=>∃k:Nat,k<=l.length/\i=J k/\aK w wr/\∀j,j<k->l[j]? =l'[j]?) (fun _ _ i _=>l.length - (intOf i).toNat)
  case atStart=>exact⟨0,V,rfl,je,fun j h=>V⟩
  case round=>
   obtain⟨k,hk',rfl,hb,hE⟩:=hrel;by_cases hlt:k<l.length
   ·have hlt':k<l'.length:=by have:=HL.o;omega
    have H1:=I (kU hlt hlt' hE);have H2:Hid (¬l[k]=l'[k]->decide (l=l')=false):=fun h=>oM hlt hlt' h;clear hE;obtain⟨b,o,rfl,c0,-⟩:=xu hel k hlt;obtain⟨b',o',rfl,c0',-⟩:=xu iH k hlt';replace c0:=hb.sub _ _ c0;replace c0':=hb.sub _ _ c0';clear hel iH;generalize l[k]=p at*;generalize l'[k]=p' at*;by_cases hpp:p=p'
    ·have H3:=I (H1.o hpp)
     have hne:(p !=p')=false:=by simp [hpp]
     clear hpp H1 H2;go_wp2_with (go_quiet (fail))
     go_roundw
     case rel=>exact⟨k+1,V,by go_num,je,H3.o⟩
     case measure=>simp [intOf];omega
    ·have H3:=I (H2.o hpp)
     have hne:(p !=p')=true:=by simp [hpp]
     clear hpp H1 H2;go_wp2_with (go_quiet (fail))
     go_ret;exact⟨dA H3.o.symm,je⟩
   ·have HE:=I hE
    clear hel iH hE;go_wp2;go_ret;refine⟨dA ?_,hb⟩;rw [eq_comm,decide_eq_true_eq];exact mV HL.o V HE.o
 ·have hb:((l.length:Int) !=l'.length)=true:=by simp;omega
  have HE:Hid (decide (l=l')=false):=by show _=_;rw [decide_eq_false_iff_not];rintro rfl;exact hlen rfl
  clear hlen hel iH;go_enter Tryz.func64,Tryz.ntmps64;go_wp2;go_ret;exact⟨dA HE.o.symm,je⟩
theorem yc {v v':Value} {l l':List Rd} (w:World) (hv:Sl Ty.rd w.cell? v l) (hv':Sl Ty.rd w.cell? v' l'):
  Calls Tryz.prog 23 #[v,v'] w fun e w'=>e=.returned (.bool (decide (l=l')))/\aK w w':=by
 obtain⟨a,cap,rfl,N,Y,-,hel⟩:=hv;obtain⟨a',cap',rfl,h1',h2',-,iH⟩:=hv';unfold maxLen at Y h2';by_cases hlen:l.length=l'.length
 ·have hb:((l.length:Int) !=l'.length)=false:=by simp [hlen]
  have HL:=I hlen;clear hlen;go_enter Tryz.func23,Tryz.ntmps23;go_wp2;go_loopw [4,5,13] (fun _ _ i wr=>∃k:Nat,k<=l.length/\i=J k/\aK w wr/\∀j,j<k->l[j]? =l'[j]?) (fun _ _ i _=>l.length - (intOf i).toNat)
  case atStart=>exact⟨0,V,rfl,je,fun j h=>V⟩
  case round=>
   obtain⟨k,hk',rfl,hb,hE⟩:=hrel;by_cases hlt:k<l.length
   ·have hlt':k<l'.length:=by have:=HL.o;omega
    have H1:=I (kU hlt hlt' hE);have H2:Hid (¬l[k]=l'[k]->decide (l=l')=false):=fun h=>oM hlt hlt' h;clear hE;obtain⟨b,o,vp,rfl,c0,c1,-,hp⟩:=VU.at_ hel k hlt;obtain⟨b',o',mI,rfl,c0',c1',-,hp'⟩:=VU.at_ iH k hlt';obtain⟨ap,cp,rfl,-⟩:=id hp;obtain⟨Oo,cp',rfl,-⟩:=id hp';have C_:=I (fun(W:World) (hW:aK wr W)=>lS W (hp.mono (hb.trans hW).sub) (hp'.mono (hb.trans hW).sub));replace c0:=hb.sub _ _ c0;replace c0':=hb.sub _ _ c0';replace c1:=hb.sub _ _ c1;replace c1':=hb.sub _ _ c1';clear hel iH hp hp';generalize l[k]=p at*;generalize l'[k]=p' at*;have HS:Hid (∀W,aK wr W->W.cell? ⟨b,o+k*2,none⟩=some (J p.aJ)/\W.cell? ⟨b,o+k*2+1,none⟩=some (U ap p.aH.length cp)/\W.cell? ⟨b',o'+k*2,none⟩=some (J p'.aJ)/\W.cell? ⟨b',o'+k*2+1,none⟩=some (U Oo p'.aH.length cp')):=fun W hW=>⟨hW.sub _ _ c0,hW.sub _ _ c1,hW.sub _ _ c0',hW.sub _ _ c1'⟩;by_cases hd:p.aJ=p'.aJ
    ·have hne:(p.aJ !=p'.aJ)=false:=by simp [hd]
     by_cases hpp:p.aH=p'.aH
     ·have hpe:p=p':=by cases p;cases p';simp_all
      have H3:=I (H1.o hpe);have hdec:=decide_eq_true hpp;rw [hdec] at C_;clear hd hpp hpe H1 H2 hdec;go_wp2;go_region_held3 (fun w'=>w'.cell? ⟨b,o+k*2,none⟩=some (J p.aJ)/\w'.cell? ⟨b,o+k*2+1,none⟩=some (U ap p.aH.length cp)/\w'.cell? ⟨b',o'+k*2,none⟩=some (J p'.aJ)/\w'.cell? ⟨b',o'+k*2+1,none⟩=some (U Oo p'.aH.length cp')) (first|assumption|exact HS.o _ Aw) (first|(go_at_call 62;refine(C_.o _ Aw).mono ?_;rintro e w4 ⟨rfl,qW⟩))
      go_wp2;go_roundw
      case rel=>exact⟨k+1,V,by go_num,hb.trans Aw,H3.o⟩
      case measure=>simp [intOf];omega
     ·have H3:=I (H2.o (fun e=>hpp (by rw [e])))
      have hdec:=decide_eq_false hpp;rw [hdec] at C_;clear hd hpp H1 H2 hdec;go_wp2;go_region_held3 (fun w'=>w'.cell? ⟨b,o+k*2,none⟩=some (J p.aJ)/\w'.cell? ⟨b,o+k*2+1,none⟩=some (U ap p.aH.length cp)/\w'.cell? ⟨b',o'+k*2,none⟩=some (J p'.aJ)/\w'.cell? ⟨b',o'+k*2+1,none⟩=some (U Oo p'.aH.length cp')) (first|assumption|exact HS.o _ Aw) (first|(go_at_call 62;refine(C_.o _ Aw).mono ?_;rintro e w4 ⟨rfl,qW⟩))
      go_wp2;go_ret;exact⟨dA H3.o.symm,hb.trans Aw⟩
    ·have H3:=I (H2.o (fun e=>hd (by rw [e])))
     have hne:(p.aJ !=p'.aJ)=true:=by simp [hd]
     clear hd H1 H2;go_wp2_with (go_quiet (fail))
     go_ret;exact⟨dA H3.o.symm,je⟩
   ·have HE:=I hE
    clear hel iH hE;go_wp2;go_ret;refine⟨dA ?_,hb⟩;rw [eq_comm,decide_eq_true_eq];exact mV HL.o V HE.o
 ·have hb:((l.length:Int) !=l'.length)=true:=by simp;omega
  have HE:Hid (decide (l=l')=false):=by show _=_;rw [decide_eq_false_iff_not];rintro rfl;exact hlen rfl
  clear hlen hel iH;go_enter Tryz.func23,Tryz.ntmps23;go_wp2;go_ret;exact⟨dA HE.o.symm,je⟩
def strOf (b:List UInt8):ByteArray:=⟨b.toArray⟩
theorem Jd {a b:List UInt8} (h:strOf a=strOf b):a=b:=by
 have:=congrArg (fun x:ByteArray=>x.data.toList) h;simpa [strOf] using this
theorem wM (b:List UInt8):(strOf b).toList=b:=by
 rw [ByteArray.toList_eq];simp [strOf]
theorem EH (l:List UInt8):strOfNums (l.map fun y=>(y.toNat:Int))=strOf l:=by
 apply ByteArray.ext;apply Array.toList_inj.1;rw [strOfNums_data,List.map_map];refine(List.map_congr_left (g:=id) ?_).trans (by simp [strOf]);intro y _;simp
theorem wO {w:World} {v:Value} {b:List UInt8} (h:Ya w.cell? v b):(convert 97 9 v).run Tryz.prog w=.ok (.string (strOf b)) w:=by
 obtain⟨a,cap,rfl,N,Y,h3,hel⟩:=h;cases a with
 |none=>
  have:=h3 rfl;have hl:b=[]:=List.eq_nil_of_length_eq_zero V;subst hl;exact run_convert_bytes_nil (P:=Tryz.prog) w 97 5 κ κ _ _ 9 κ
 |some ad=>
  cases b with
  |nil=>
   have hl:(loadCells ad 0).run Tryz.prog w=.ok (([]:List Int).map (Value.int .u8)).toArray w:=by
    have:=run_loadCells_list (P:=Tryz.prog) w ad [] (fun j v hj=>by simp at hj);simpa using this
   rw [run_convert_bytes_string w _ _ _ _ _ _ (show Tryz.prog.underlying 97=some (.slice 5) by kernel_rfl) κ κ];exact run_bytesToString w ad 0 cap [] hl
  |cons x l=>
   obtain⟨bb,o,cs,he,-,-⟩:=hel 0 x rfl;obtain rfl:=bI he;have h9:=run_convert_bytes_arg (P:=Tryz.prog) w 97 5 κ κ bb o (x::l).length cap ((x::l).map fun y=>(y.toNat:Int)) σ (fun i hi=>by
    obtain⟨b2,o2,he2,hc⟩:=byteAt hel i hi;obtain⟨rfl,rfl⟩:bb=b2/\o=o2:=by simpa using he2
    rw [hc];rw [List.getD_eq_getElem?_getD,List.getElem?_map,dM hi];rfl) 9 κ
   rw [h9,EH]
theorem Cb {v v':Value} {l l':List (List UInt8)} (w:World) (hv:yS w.cell? v l) (hv':yS w.cell? v' l'):
  Calls Tryz.prog 24 #[v,v'] w fun e w'=>e=.returned (.bool (decide (l=l')))/\aK w w':=by
 obtain⟨a,cap,rfl,N,Y,-,hel⟩:=hv;obtain⟨a',cap',rfl,h1',h2',-,iH⟩:=hv';unfold maxLen at Y h2';by_cases hlen:l.length=l'.length
 ·have hb:((l.length:Int) !=l'.length)=false:=by simp [hlen]
  have HL:=I hlen;clear hlen;go_enter Tryz.func24,Tryz.ntmps24;go_wp2;go_loopw [4,5,13] (fun _ _ i wr=>∃k:Nat,k<=l.length/\i=J k/\aK w wr/\∀j,j<k->l[j]? =l'[j]?) (fun _ _ i _=>l.length - (intOf i).toNat)
  case atStart=>exact⟨0,V,rfl,je,fun j h=>V⟩
  case round=>
   obtain⟨k,hk',rfl,hb,hE⟩:=hrel;by_cases hlt:k<l.length
   ·have hlt':k<l'.length:=by have:=HL.o;omega
    have H1:=I (kU hlt hlt' hE);have H2:Hid (¬l[k]=l'[k]->decide (l=l')=false):=fun h=>oM hlt hlt' h;clear hE;obtain⟨b,o,vp,rfl,c0,hP⟩:=yS.at_ hel k hlt;obtain⟨b',o',mI,rfl,c0',hP'⟩:=yS.at_ iH k hlt';replace c0:=hb.sub _ _ c0;replace c0':=hb.sub _ _ c0';have hcv:∀q,(convert 97 9 vp).run Tryz.prog (wr.drewN q)=.ok (.string (strOf l[k])) (wr.drewN q):=fun q=>wO (hP.mono (hb.drewN q).sub);have hcv':∀q,(convert 97 9 mI).run Tryz.prog (wr.drewN q)=.ok (.string (strOf l'[k])) (wr.drewN q):=fun q=>wO (hP'.mono (hb.drewN q).sub);have Gv:Hid (strOf l[k]=strOf l'[k]->l[k]=l'[k]):=fun h=>Jd h;clear hel iH hP hP';generalize l[k]=p at*;generalize l'[k]=p' at*;by_cases hpp:strOf p=strOf p'
    ·have H3:=I (H1.o (Gv.o hpp))
     generalize strOf p=s at*;generalize strOf p'=s' at*;subst hpp;clear H1 H2 Gv;go_wp2_with (go_quiet (fail))
     go_roundw
     case rel=>exact⟨k+1,V,by go_num,je,H3.o⟩
     case measure=>simp [intOf];omega
    ·have H3:=I (H2.o (fun e9=>hpp (by rw [e9])))
     have hne:((strOf p).toList==(strOf p').toList)=false:=by
      rw [wM,wM,beq_eq_false_iff_ne];exact fun e9=>hpp (by rw [e9])
     generalize strOf p=s at*;generalize strOf p'=s' at*;clear hpp H1 H2 Gv;go_wp2_with (go_quiet (fail))
     go_ret;exact⟨dA H3.o.symm,je⟩
   ·have HE:=I hE
    clear hel iH hE;go_wp2;go_ret;refine⟨dA ?_,hb⟩;rw [eq_comm,decide_eq_true_eq];exact mV HL.o V HE.o
 ·have hb:((l.length:Int) !=l'.length)=true:=by simp;omega
  have HE:Hid (decide (l=l')=false):=by show _=_;rw [decide_eq_false_iff_not];rintro rfl;exact hlen rfl
  clear hlen hel iH;go_enter Tryz.func24,Tryz.ntmps24;go_wp2;go_ret;exact⟨dA HE.o.symm,je⟩
theorem tY {v v':Value} {l l':List Rc} (w:World) (hv:Sl Ty.rc w.cell? v l) (hv':Sl Ty.rc w.cell? v' l'):
  Calls Tryz.prog 63 #[v,v'] w fun e w'=>e=.returned (.bool (decide (l=l')))/\aK w w':=by
 obtain⟨a,cap,rfl,N,Y,-,hel⟩:=hv;obtain⟨a',cap',rfl,h1',h2',-,iH⟩:=hv';unfold maxLen at Y h2';by_cases hlen:l.length=l'.length
 ·have hb:((l.length:Int) !=l'.length)=false:=by simp [hlen]
  have HL:=I hlen;clear hlen;go_enter Tryz.func63,Tryz.ntmps63;go_wp2;go_loopw [4,5,13] (fun _ _ i wr=>∃k:Nat,k<=l.length/\i=J k/\aK w wr/\∀j,j<k->l[j]? =l'[j]?) (fun _ _ i _=>l.length - (intOf i).toNat)
  case atStart=>exact⟨0,V,rfl,je,fun j h=>V⟩
  case round=>
   obtain⟨k,hk',rfl,hb,hE⟩:=hrel;by_cases hlt:k<l.length
   ·have hlt':k<l'.length:=by have:=HL.o;omega
    have H1:=I (kU hlt hlt' hE);have H2:Hid (¬l[k]=l'[k]->decide (l=l')=false):=fun h=>oM hlt hlt' h;clear hE;obtain⟨b,o,vp,rfl,c0,c1,c2,-,-,hp⟩:=NT.at_ hel k hlt;obtain⟨b',o',mI,rfl,c0',c1',c2',-,-,hp'⟩:=NT.at_ iH k hlt';obtain⟨ap,cp,rfl,-⟩:=id hp;obtain⟨Oo,cp',rfl,-⟩:=id hp';have C_:=I (fun(W:World) (hW:aK wr W)=>lS W (hp.mono (hb.trans hW).sub) (hp'.mono (hb.trans hW).sub));replace c0:=hb.sub _ _ c0;replace c0':=hb.sub _ _ c0';replace c1:=hb.sub _ _ c1;replace c1':=hb.sub _ _ c1';replace c2:=hb.sub _ _ c2;replace c2':=hb.sub _ _ c2';clear hel iH hp hp';generalize l[k]=p at*;generalize l'[k]=p' at*;have HS:Hid (∀W,aK wr W->W.cell? ⟨b,o+k*3,none⟩=some (J p.aX)/\W.cell? ⟨b,o+k*3+1,none⟩=some (J p.aJ)/\W.cell? ⟨b,o+k*3+2,none⟩=some (U ap p.aH.length cp)/\W.cell? ⟨b',o'+k*3,none⟩=some (J p'.aX)/\W.cell? ⟨b',o'+k*3+1,none⟩=some (J p'.aJ)/\W.cell? ⟨b',o'+k*3+2,none⟩=some (U Oo p'.aH.length cp')):=fun W hW=>⟨hW.sub _ _ c0,hW.sub _ _ c1,hW.sub _ _ c2,hW.sub _ _ c0',hW.sub _ _ c1',hW.sub _ _ c2'⟩;by_cases hk:p.aX=p'.aX
    ·have hnk:(p.aX !=p'.aX)=false:=by simp [hk]
     by_cases hd:p.aJ=p'.aJ
     ·have hne:(p.aJ !=p'.aJ)=false:=by simp [hd]
      by_cases hpp:p.aH=p'.aH
      ·have hpe:p=p':=by cases p;cases p';simp_all
       have H3:=I (H1.o hpe);have hdec:=decide_eq_true hpp;rw [hdec] at C_;clear hk hd hpp hpe H1 H2 hdec;go_wp2;go_region_held3 (fun w'=>w'.cell? ⟨b,o+k*3,none⟩=some (J p.aX)/\w'.cell? ⟨b,o+k*3+1,none⟩=some (J p.aJ)/\w'.cell? ⟨b,o+k*3+2,none⟩=some (U ap p.aH.length cp)/\w'.cell? ⟨b',o'+k*3,none⟩=some (J p'.aX)/\w'.cell? ⟨b',o'+k*3+1,none⟩=some (J p'.aJ)/\w'.cell? ⟨b',o'+k*3+2,none⟩=some (U Oo p'.aH.length cp')) (first|assumption|exact HS.o _ Aw) (first|(go_at_call 62;refine(C_.o _ Aw).mono ?_;rintro e w4 ⟨rfl,qW⟩))
       go_wp2;go_roundw
       case rel=>exact⟨k+1,V,by go_num,hb.trans Aw,H3.o⟩
       case measure=>simp [intOf];omega
      ·have H3:=I (H2.o (fun e=>hpp (by rw [e])))
       have hdec:=decide_eq_false hpp;rw [hdec] at C_;clear hk hd hpp H1 H2 hdec;go_wp2;go_region_held3 (fun w'=>w'.cell? ⟨b,o+k*3,none⟩=some (J p.aX)/\w'.cell? ⟨b,o+k*3+1,none⟩=some (J p.aJ)/\w'.cell? ⟨b,o+k*3+2,none⟩=some (U ap p.aH.length cp)/\w'.cell? ⟨b',o'+k*3,none⟩=some (J p'.aX)/\w'.cell? ⟨b',o'+k*3+1,none⟩=some (J p'.aJ)/\w'.cell? ⟨b',o'+k*3+2,none⟩=some (U Oo p'.aH.length cp')) (first|assumption|exact HS.o _ Aw) (first|(go_at_call 62;refine(C_.o _ Aw).mono ?_;rintro e w4 ⟨rfl,qW⟩))
       go_wp2;go_ret;exact⟨dA H3.o.symm,hb.trans Aw⟩
     ·have H3:=I (H2.o (fun e=>hd (by rw [e])))
      have hne:(p.aJ !=p'.aJ)=true:=by simp [hd]
      clear hk hd H1 H2;go_wp2_with (go_quiet (fail))
      go_ret;exact⟨dA H3.o.symm,je⟩
    ·have H3:=I (H2.o (fun e=>hk (by rw [e])))
     have hnk:(p.aX !=p'.aX)=true:=by simp [hk]
     clear hk H1 H2;go_wp2_with (go_quiet (fail))
     go_ret;exact⟨dA H3.o.symm,je⟩
   ·have HE:=I hE
    clear hel iH hE;go_wp2;go_ret;refine⟨dA ?_,hb⟩;rw [eq_comm,decide_eq_true_eq];exact mV HL.o V HE.o
 ·have hb:((l.length:Int) !=l'.length)=true:=by simp;omega
  have HE:Hid (decide (l=l')=false):=by show _=_;rw [decide_eq_false_iff_not];rintro rfl;exact hlen rfl
  clear hlen hel iH;go_enter Tryz.func63,Tryz.ntmps63;go_wp2;go_ret;exact⟨dA HE.o.symm,je⟩
theorem wR (s t:Sm) (w:World):(binOp .eql 47 (.agg #[J s.a,J s.b,J s.c,J s.d]) (.agg #[J t.a,J t.b,J t.c,J t.d])).run Tryz.prog w=.ok (.bool (decide (s=t))) w:=by
 have u3:=Tryz.underlying3;have a3:=Tryz.isAgg3;have z3:=Tryz.sizeOf3;obtain⟨i,z,hi,_⟩:=jL.hi;have hc:Tryz.prog.cellsOf 3=1:=by kernel_rfl
 rw [run_eql_struct,show(10000:Nat)=9999+1 from rfl,run_equalIn_array w 9999 _ _ Tryz.underlying47 hi,hc,show List.range 4=[0,1,2,3] from rfl];clear hi;simp only [Op.eqItems];obtain⟨a,b,c,d⟩:=s;obtain⟨a',b',c',d'⟩:=t;go_simp;by_cases N:a=a'<;>by_cases Y:b=b'<;>by_cases h3:c=c'<;>by_cases h4:d=d'<;>simp [N,Y,h3,h4]
theorem oN:Tryz.prog.eqGuardType Tryz.prog.depth 47=false:=by kernel_rfl
theorem tX {c:CM} {v:Value} {l:List Rc} (w:World) (hc:Sub c w.cell?) (hv:NT c v l) (hm:l.length*40<=140737488355328):
  Calls Tryz.prog 19 #[v] w fun e w'=>∃v',e=.returned v'/\bK Ty.rd c w' w.heap.size 53 v' (bH l)/\aK w w':=by
 obtain⟨a,cap,rfl,N,Y,-,hel⟩:=hv;unfold maxLen at Y;have HM:=I hm;clear hm;go_enter Tryz.func19,Tryz.ntmps19;go_wp2;go_loopw [3,8] (fun s3 i wr=>∃k:Nat,k<=l.length/\i=J k/\aK w wr/\bK Ty.rd c wr w.heap.size 53 s3 (bH (l.take k))) (fun _ i _=>l.length - (intOf i).toNat)
 case atStart=>exact⟨0,V,rfl,aG _,bK.nil _ _ _ _ _⟩
 case round=>
  obtain⟨k,hk',rfl,hb,bU⟩:=hrel;by_cases hlt:k<l.length
  ·obtain⟨b,o,vp,rfl,c0,c1,c2,i0,i1,hP⟩:=NT.at_ hel k hlt
   obtain⟨ap,cp,rfl,-⟩:=id hP;replace c0:=hb.sub _ _ (hc _ _ c0);replace c1:=hb.sub _ _ (hc _ _ c1);replace c2:=hb.sub _ _ (hc _ _ c2);have htk:bH (l.take (k+1))=if l[k].aX=5 then bH (l.take k)++ [⟨l[k].aJ,l[k].aH⟩] else bH (l.take k):=by rw [List.take_succ_eq_append_getElem hlt,qR]
   have nK:=I htk;have hlk:(bH (l.take k)).length<=l.length:=Nat.le_trans (J4 _) (by simp;omega);have dX:=I bU;have HI:=I (And.intro i1 hP);obtain⟨av,cv,rfl⟩:=bU.form;have CB:=I hlk;clear hel hP htk bU i0 i1 hlk;generalize l[k]=r at*;generalize bH (l.take k)=ds at*;by_cases h5:r.aX=5
   ·have b5:(r.aX==5)=true:=by simp [h5]
    have Jo:=I h5;clear h5;go_wp2_with (first|(at_builtin;refine cO (c:=c) (base:=w.heap.size) (l:=ds) (m:=[⟨r.aJ,r.aH⟩]) AZ rfl zo ε rfl (.tmp 15) (.tmp 21) rfl rfl ?own rfl (Src.dU (T:=Ty.rd) (cs:=#[J r.aJ,U ap r.aH.length cp]) ⟨_,rfl,HI.o.1,HI.o.2⟩ _ _ ?d1) ?d2 ?d3 ?_))
    case own=>exact dX.o.grow (((aG _).alloc _).alloc _)
    case d1=>simp
    case d2=>have:=HM.o;have:=CB.o;simp;omega
    case d3=>have:=hb.size;simp;omega
    intro a9 c9 w9 gX fV iE;have kR:Hid (aK w w9):=I (dI (w0:=w) ((hb.alloc _).alloc _) fV (fun q O=>(dX.o.lt q O).1));have jE:=I gX;clear gX fV iE;go_wp2;go_roundw
    case rel=>exact⟨k+1,V,by go_num,kR.o,by rw [nK.o,bC Jo.o];exact jE.o⟩
    case measure=>simp [intOf];omega
   ·have b5:(r.aX==5)=false:=by simp [h5]
    have Jo:=I h5;clear h5;go_wp2;go_roundw
    case rel=>exact⟨k+1,V,by go_num,hb.alloc _,by rw [nK.o,aV Jo.o];exact dX.o.grow ((aG _).alloc _)⟩
    case measure=>simp [intOf];omega
  ·clear hel
   go_wp2;go_ret;have h9:=bU;rw [eG V] at h9;exact⟨_,rfl,h9,hb⟩
theorem Ac {v v':Value} {h h':Hd} (w:World) (hv:Of Ty.hd w.cell? v h) (hv':Of Ty.hd w.cell? v' h'):
  Calls Tryz.prog 40 #[v,v'] w fun e w'=>e=.returned (.bool (decide (h=h')))/\aK w w':=by
 obtain⟨al,cl,ar,cr,rfl⟩:=hv.iw;obtain⟨iC,iD,oD,oG,rfl⟩:=hv'.iw;have k:=Of.lM hv;have k':=Of.lM hv';have HSL:=I (fun(W:World) (hW:aK w W)=>tY W (k.1.mono hW.sub) (k'.1.mono hW.sub));have kH:Hid (aK w ((w.alloc (.cells #[U al h.bg.length cl,J h.aW,J h.next,U ar h.bG.length cr] 29)).alloc (.cells #[U iC h'.bg.length iD,J h'.aW,J h'.next,U oD h'.bG.length oG] 29))):=I (((aG w).alloc _).alloc _);have zu:Hid (((w.alloc (.cells #[U al h.bg.length cl,J h.aW,J h.next,U ar h.bG.length cr] 29)).alloc (.cells #[U iC h'.bg.length iD,J h'.aW,J h'.next,U oD h'.bG.length oG] 29)).heap[w.heap.size]? =some (.cells #[U al h.bg.length cl,J h.aW,J h.next,U ar h.bG.length cr] 29 (0,0))):=I (bQ (bn _ _) _);have qF:Hid (((w.alloc (.cells #[U al h.bg.length cl,J h.aW,J h.next,U ar h.bG.length cr] 29)).alloc (.cells #[U iC h'.bg.length iD,J h'.aW,J h'.next,U oD h'.bG.length oG] 29)).heap[w.heap.size+1]? =some (.cells #[U iC h'.bg.length iD,J h'.aW,J h'.next,U oD h'.bG.length oG] 29 (0,0))):=I (by simpa using bn (w.alloc (.cells #[U al h.bg.length cl,J h.aW,J h.next,U ar h.bG.length cr] 29)) _);obtain⟨Oi,Oj,he,N,Y,-,hel⟩:=k.2;obtain⟨rfl,rfl⟩:ar=Oi/\cr=Oj:=by simpa using he
 obtain⟨ar3,cr3,he',h1',h2',-,iH⟩:=k'.2;obtain⟨rfl,rfl⟩:oD=ar3/\oG=cr3:=by simpa using he'
 unfold maxLen at Y h2';clear hv hv' k k' he he';by_cases hl:h.bg=h'.bg
 ·by_cases hb:h.aW=h'.aW
  ·by_cases hn:h.next=h'.next
   ·by_cases ho:h.bG.length=h'.bG.length
    ·have DL:=I (decide_eq_true hl)
     have b1:(h.aW !=h'.aW)=false:=by simp [hb]
     have b2:(h.next !=h'.next)=false:=by simp [hn]
     have b3:((h.bG.length:Int) !=h'.bG.length)=false:=by simp [ho]
     have nF:Hid (h.bG=h'.bG->h=h'):=fun e=>by cases h;cases h';simp_all
     have Am:=I ho;clear hl hb hn ho;go_enter Tryz.func40,Tryz.ntmps40;go_wp2_with fail
     refine(HSL.o _ kH.o).mono ?_;rw [DL.o];rintro e w1 ⟨rfl,dR⟩;(obtain⟨Gn,Hg⟩:=gu dR;have uw:w.heap.size<w1:=(ω dR.size);have Ad:w.heap.size+1<w1:=(ω dR.size);have pK:=I dR;clear dR)
     have Cc:Hid (aK w w1):=I (kH.o.trans pK.o);obtain⟨k0,k1,k2,k3⟩:=aT (aF zu.o pK.o);obtain⟨m0,m1,m2,m3⟩:=aT (aF qF.o pK.o);have NI:=I m3;clear Gn Hg;go_wp2;clear k0 k1 k2 k3 m0 m1 m2 m3;go_loopw [40] (fun i wr=>∃k:Nat,k<=h.bG.length/\i=J k/\aK w1 wr/\∀j,j<k->h.bG[j]? =h'.bG[j]?) (fun i _=>h.bG.length - (intOf i).toNat)
     case atStart=>exact⟨0,V,rfl,aG _,fun j h=>V⟩
     case round=>
      obtain⟨k,hk',rfl,hb,hE⟩:=hrel;by_cases hlt:k<h.bG.length
      ·have hlt':k<h'.bG.length:=by have:=Am.o;omega
       have H1:=I (kU hlt hlt' hE);have H2:Hid (¬h.bG[k]=h'.bG[k]->decide (h=h')=false):=fun Y=>by
        rw [decide_eq_false_iff_not];intro e;apply Y;simp [e]
       clear hE;obtain⟨b,o,vp,vh,rfl,c0,c1,c2,c3,-,hp,hh⟩:=EP.at_ hel k hlt;obtain⟨b',o',vq,vg,rfl,d0,d1,d2,d3,-,O,hg⟩:=EP.at_ iH k hlt';obtain⟨ap,cp,rfl,-⟩:=id hp;obtain⟨ah,ch,rfl,-⟩:=id hh;obtain⟨aq,cq,rfl,-⟩:=id O;obtain⟨ag,cg,rfl,-⟩:=id hg;have C_:=I (fun(W:World) (hW:aK wr W)=>lS W (hp.mono (Cc.o.trans (hb.trans hW)).sub) (O.mono (Cc.o.trans (hb.trans hW)).sub));have Gv:=I (fun(W:World) (hW:aK wr W)=>rD W (hh.mono (Cc.o.trans (hb.trans hW)).sub) (hg.mono (Cc.o.trans (hb.trans hW)).sub));replace c0:=(Cc.o.trans hb).sub _ _ c0;replace c1:=(Cc.o.trans hb).sub _ _ c1;replace c2:=(Cc.o.trans hb).sub _ _ c2;replace c3:=(Cc.o.trans hb).sub _ _ c3;replace d0:=(Cc.o.trans hb).sub _ _ d0;replace d1:=(Cc.o.trans hb).sub _ _ d1;replace d2:=(Cc.o.trans hb).sub _ _ d2;replace d3:=(Cc.o.trans hb).sub _ _ d3;have m3:=hb.sub _ _ NI.o;have z1:w.heap.size+1<wr:=eH wr _ m3;have z2:b'<wr.heap.size:=eH wr _ d0;clear hel iH hp hh O hg;generalize h.bG[k]=p at*;generalize h'.bG[k]=q at*;generalize eL:p.dec=bp at*;generalize eM:q.dec=bq at*;by_cases oO:p.aJ=q.aJ
       ·by_cases hdec:bp=bq
        ·subst hdec
         by_cases hparts:p.aH=q.aH
         ·by_cases hheard:p.aZ=q.aZ
          ·have hpe:p=q:=by cases p;cases q;simp_all
           have H3:=I (H1.o hpe);have n1:(p.aJ !=q.aJ)=false:=by simp [oO]
           have DP:=I (decide_eq_true hparts);have DI:=I (decide_eq_true hheard);clear hpe eL eM oO hparts hheard H1 H2;go_wp2_with fail
           refine(C_.o _ (((aG wr).alloc (.cells #[J p.aJ,U ap p.aH.length cp,.bool bp,U ah p.aZ.length ch] 58)).alloc (.cells #[J q.aJ,U aq q.aH.length cq,.bool bp,U ag q.aZ.length cg] 58))).mono ?_;rw [DP.o];rintro e w2 ⟨rfl,iq⟩;(obtain⟨Ym,Yn⟩:=gu iq;have JJ:wr.heap.size<w2:=(ω iq.size);have NR:wr.heap.size+1<w2:=(ω iq.size);have Dn:=I iq;clear iq)
           go_wp2_with fail
           refine(Gv.o _ ((((aG wr).alloc (.cells #[J p.aJ,U ap p.aH.length cp,.bool bp,U ah p.aZ.length ch] 58)).alloc (.cells #[J q.aJ,U aq q.aH.length cq,.bool bp,U ag q.aZ.length cg] 58)).trans Dn.o)).mono ?_;rw [DI.o];rintro e w3 ⟨rfl,kZ⟩;(obtain⟨cw3,fw3⟩:=gu kZ;have X0:wr.heap.size<w3:=(ω kZ.size);have X3:wr.heap.size+1<w3:=(ω kZ.size);have X4:=I kZ;clear kZ)
           go_wp2;go_roundw
           case rel=>exact⟨k+1,V,by go_num,hb.trans (((((aG wr).alloc (.cells #[J p.aJ,U ap p.aH.length cp,.bool bp,U ah p.aZ.length ch] 58)).alloc (.cells #[J q.aJ,U aq q.aH.length cq,.bool bp,U ag q.aZ.length cg] 58)).trans Dn.o).trans X4.o),H3.o⟩
           case measure=>simp [intOf];omega
          ·have H3:=I (H2.o (fun e=>hheard (by rw [e])))
           have n1:(p.aJ !=q.aJ)=false:=by simp [oO]
           have DP:=I (decide_eq_true hparts);have DI:=I (decide_eq_false hheard);clear eL eM oO hparts hheard H1 H2;go_wp2_with fail
           refine(C_.o _ (((aG wr).alloc (.cells #[J p.aJ,U ap p.aH.length cp,.bool bp,U ah p.aZ.length ch] 58)).alloc (.cells #[J q.aJ,U aq q.aH.length cq,.bool bp,U ag q.aZ.length cg] 58))).mono ?_;rw [DP.o];rintro e w2 ⟨rfl,iq⟩;(obtain⟨Ym,Yn⟩:=gu iq;have JJ:wr.heap.size<w2:=(ω iq.size);have NR:wr.heap.size+1<w2:=(ω iq.size);have Dn:=I iq;clear iq)
           go_wp2_with fail
           refine(Gv.o _ ((((aG wr).alloc (.cells #[J p.aJ,U ap p.aH.length cp,.bool bp,U ah p.aZ.length ch] 58)).alloc (.cells #[J q.aJ,U aq q.aH.length cq,.bool bp,U ag q.aZ.length cg] 58)).trans Dn.o)).mono ?_;rw [DI.o];rintro e w3 ⟨rfl,kZ⟩;(obtain⟨cw3,fw3⟩:=gu kZ;have X0:wr.heap.size<w3:=(ω kZ.size);have X3:wr.heap.size+1<w3:=(ω kZ.size);have X4:=I kZ;clear kZ)
           go_wp2;go_ret;exact⟨dA H3.o.symm,Cc.o.trans (hb.trans (((((aG wr).alloc (.cells #[J p.aJ,U ap p.aH.length cp,.bool bp,U ah p.aZ.length ch] 58)).alloc (.cells #[J q.aJ,U aq q.aH.length cq,.bool bp,U ag q.aZ.length cg] 58)).trans Dn.o).trans X4.o))⟩
         ·have H3:=I (H2.o (fun e=>hparts (by rw [e])))
          have n1:(p.aJ !=q.aJ)=false:=by simp [oO]
          have DP:=I (decide_eq_false hparts);clear eL eM oO hparts H1 H2;go_wp2_with fail
          refine(C_.o _ (((aG wr).alloc (.cells #[J p.aJ,U ap p.aH.length cp,.bool bp,U ah p.aZ.length ch] 58)).alloc (.cells #[J q.aJ,U aq q.aH.length cq,.bool bp,U ag q.aZ.length cg] 58))).mono ?_;rw [DP.o];rintro e w2 ⟨rfl,iq⟩;(obtain⟨Ym,Yn⟩:=gu iq;have JJ:wr.heap.size<w2:=(ω iq.size);have NR:wr.heap.size+1<w2:=(ω iq.size);have Dn:=I iq;clear iq)
          go_wp2;go_ret;exact⟨dA H3.o.symm,Cc.o.trans (hb.trans ((((aG wr).alloc (.cells #[J p.aJ,U ap p.aH.length cp,.bool bp,U ah p.aZ.length ch] 58)).alloc (.cells #[J q.aJ,U aq q.aH.length cq,.bool bp,U ag q.aZ.length cg] 58)).trans Dn.o))⟩
        ·have H3:=I (H2.o (fun e=>hdec (by rw [<-eL,<-eM,e])))
         have n1:(p.aJ !=q.aJ)=false:=by simp [oO]
         have h2b:(bp=true/\bq=false)∨(bp=false/\bq=true):=by cases bp<;>cases bq<;>simp_all
         clear eL eM oO hdec H1 H2;rcases h2b with⟨rfl,rfl⟩|⟨rfl,rfl⟩
         all_goals
          go_wp2;go_ret;exact⟨dA H3.o.symm,Cc.o.trans je⟩
       ·have H3:=I (H2.o (fun e=>oO (by rw [e])))
        have n1:(p.aJ !=q.aJ)=true:=by simp [oO]
        clear eL eM oO H1 H2;go_wp2;go_ret;exact⟨dA H3.o.symm,Cc.o.trans je⟩
      ·have H9:=I (mV Am.o V hE)
       clear hel iH hE;go_wp2;go_ret;refine⟨dA ?_,Cc.o.trans hb⟩;rw [eq_comm,decide_eq_true_eq];exact nF.o H9.o
    ·have HE:Hid (decide (h=h')=false):=by show _=_;rw [decide_eq_false_iff_not];rintro rfl;exact ho rfl
     have DL:=I (decide_eq_true hl);have b1:(h.aW !=h'.aW)=false:=by simp [hb]
     have b2:(h.next !=h'.next)=false:=by simp [hn]
     have b3:((h.bG.length:Int) !=h'.bG.length)=true:=by simp;omega
     clear hl hb hn ho hel iH;go_enter Tryz.func40,Tryz.ntmps40;go_wp2_with fail
     refine(HSL.o _ kH.o).mono ?_;rw [DL.o];rintro e w1 ⟨rfl,dR⟩;(obtain⟨Gn,Hg⟩:=gu dR;have uw:w.heap.size<w1:=(ω dR.size);have Ad:w.heap.size+1<w1:=(ω dR.size);have pK:=I dR;clear dR)
     go_wp2;go_ret;exact⟨dA HE.o.symm,kH.o.trans pK.o⟩
   ·have HE:Hid (decide (h=h')=false):=by show _=_;rw [decide_eq_false_iff_not];rintro rfl;exact hn rfl
    have DL:=I (decide_eq_true hl);have b1:(h.aW !=h'.aW)=false:=by simp [hb]
    have b2:(h.next !=h'.next)=true:=by simp [hn]
    clear hl hb hn hel iH;go_enter Tryz.func40,Tryz.ntmps40;go_wp2_with fail
    refine(HSL.o _ kH.o).mono ?_;rw [DL.o];rintro e w1 ⟨rfl,dR⟩;(obtain⟨Gn,Hg⟩:=gu dR;have uw:w.heap.size<w1:=(ω dR.size);have Ad:w.heap.size+1<w1:=(ω dR.size);have pK:=I dR;clear dR)
    go_wp2;go_ret;exact⟨dA HE.o.symm,kH.o.trans pK.o⟩
  ·have HE:Hid (decide (h=h')=false):=by show _=_;rw [decide_eq_false_iff_not];rintro rfl;exact hb rfl
   have DL:=I (decide_eq_true hl);have b1:(h.aW !=h'.aW)=true:=by simp [hb]
   clear hl hb hel iH;go_enter Tryz.func40,Tryz.ntmps40;go_wp2_with fail
   refine(HSL.o _ kH.o).mono ?_;rw [DL.o];rintro e w1 ⟨rfl,dR⟩;(obtain⟨Gn,Hg⟩:=gu dR;have uw:w.heap.size<w1:=(ω dR.size);have Ad:w.heap.size+1<w1:=(ω dR.size);have pK:=I dR;clear dR)
   go_wp2;go_ret;exact⟨dA HE.o.symm,kH.o.trans pK.o⟩
 ·have HE:Hid (decide (h=h')=false):=by show _=_;rw [decide_eq_false_iff_not];rintro rfl;exact hl rfl
  have DL:=I (decide_eq_false hl);clear hl hel iH;go_enter Tryz.func40,Tryz.ntmps40;go_wp2_with fail
  refine(HSL.o _ kH.o).mono ?_;rw [DL.o];rintro e w1 ⟨rfl,dR⟩;(obtain⟨Gn,Hg⟩:=gu dR;have uw:w.heap.size<w1:=(ω dR.size);have Ad:w.heap.size+1<w1:=(ω dR.size);have pK:=I dR;clear dR)
  go_wp2;go_ret;exact⟨dA HE.o.symm,kH.o.trans pK.o⟩
theorem K9 {B:Nat} {w9 w7:World} (h7:w9.grownBy w7 (some B)):Sub (wo B w9.cell?) w7.cell?:=fun a v e=>bV (qL _ _ a v e) h7 (PN e)
theorem A0W {B:Nat} {w w9:World} (hg:aK w w9) (hB:w.heap.size<=B):Sub w.cell? (wo B w9.cell?):=(LE (Sub.refl _) hB).trans (JY hg.sub)
theorem Zj {B:Nat} {w9:World} {a:Addr} (h:a.block≠B):wo B w9.cell? a=w9.cell? a:=by
 unfold wo;rw [aV h]
theorem X7 {B:Nat} {W w':World} (hg:aK W w') (hB:B<W.heap.size):Sub (ov (wo B W.cell?) W w') (wo B w'.cell?):=fun a v e=>by
 unfold ov at e;split at e
 ·rw [Zj (PN e)];exact hg.sub _ _ (qL _ _ a v e)
 ·rw [Zj V];exact e
def wI (hs:List Hs) (x:Int):Prop:=∃h∈hs,dP h.ready x=true
def BU (hs:List Hs) (r:Rd) (j:Nat):Prop:=∃k h,k<j/\hs[k]? =some h/\jT r.aH k≠ []/\r.aJ∉h.done
def ru (hs:List Hs) (D:List Rd) (x:Int):Prop:=∃r∈D,r.aJ=x/\BU hs r hs.length
theorem Ez {w:AW} {x:Int}:isOpen w x=true↔wI w.aI x∨ru w.aI (bH w.aN.bg) x:=by
 unfold isOpen wI ru BU;rw [Bool.or_eq_true,List.any_eq_true,List.any_eq_true];refine or_congr Iff.rfl ⟨?_,?_⟩
 ·rintro⟨r,hr,h⟩
  rw [Bool.and_eq_true,List.any_eq_true] at h;obtain⟨e,k,hk,Y⟩:=h;rw [Bool.and_eq_true] at Y;have hk':=List.mem_range.1 hk;refine⟨r,hr,by simpa using e,k,w.aI[k],hk',dM hk',fun e0=>by rw [e0] at Y;simp at Y,?_⟩;have h3:=Y.2;rw [List.getD_eq_getElem?_getD,dM hk'] at h3;have e':r.aJ=x:=by simpa using e
  rw [e'];simpa using h3
 ·rintro⟨r,hr,e,k,h,hk,hh,N,Y⟩
  refine⟨r,hr,?_⟩;rw [Bool.and_eq_true,List.any_eq_true];refine⟨by simpa using e,k,List.mem_range.2 hk,?_⟩;rw [Bool.and_eq_true,List.getD_eq_getElem?_getD,hh];refine⟨?_,by rw [<-e];simpa using Y⟩;cases ho:jT r.aH k with
  |nil=>exact absurd ho N
  |cons a b=>rfl
theorem I9 (x:Int):¬wI [] x:=by rintro⟨h,hh,-⟩;simp at hh
theorem I_ {hs:List Hs} {j:Nat} (hj:j<hs.length) (x:Int):wI (hs.take (j+1)) x↔wI (hs.take j) x∨dP hs[j].ready x=true:=by
 unfold wI;rw [List.take_succ_eq_append_getElem hj];constructor
 ·rintro⟨h,hh,e⟩
  rcases List.mem_append.1 hh with hh|hh
  ·exact .inl ⟨h,hh,e⟩
  ·rw [List.mem_singleton.1 hh] at e;exact .inr e
 ·rintro(⟨h,hh,e⟩|e)
  ·exact⟨h,List.mem_append.2 (.inl hh),e⟩
  ·exact⟨_,List.mem_append.2 (.inr (List.mem_singleton.2 rfl)),e⟩
theorem BZ {l:List Rd} {j:Nat} (hj:j<l.length) (x:Int):dP (l.take (j+1)) x=true↔dP (l.take j) x=true∨l[j].aJ=x:=by
 unfold dP;rw [List.take_succ_eq_append_getElem hj,List.any_append,Bool.or_eq_true];simp [nG]
theorem Ja {hs:List Hs} {r:Rd}:¬BU hs r 0:=by rintro⟨k,h,hk,-⟩;omega
theorem Jb {hs:List Hs} {r:Rd} {j:Nat} {h:Hs} (hj:hs[j]? =some h):BU hs r (j+1)↔BU hs r j∨(jT r.aH j≠ []/\r.aJ∉h.done):=by
 unfold BU;constructor
 ·rintro⟨k,h',hk,e,N,Y⟩
  by_cases hkj:k=j
  ·subst hkj
   rw [hj] at e;obtain rfl:=bI e;exact .inr ⟨N,Y⟩
  ·exact .inl ⟨k,h',V,e,N,Y⟩
 ·rintro(⟨k,h',hk,e,N,Y⟩|⟨N,Y⟩)
  ·exact⟨k,h',V,e,N,Y⟩
  ·exact⟨j,h,V,hj,N,Y⟩
theorem EC (hs:List Hs) (x:Int):¬ru hs [] x:=by rintro⟨r,hr,-⟩;simp at hr
theorem ED {hs:List Hs} {D:List Rd} {j:Nat} (hj:j<D.length) (x:Int):ru hs (D.take (j+1)) x↔ru hs (D.take j) x∨(D[j].aJ=x/\BU hs D[j] hs.length):=by
 unfold ru;rw [List.take_succ_eq_append_getElem hj];constructor
 ·rintro⟨r,hr,e,h⟩
  rcases List.mem_append.1 hr with hr|hr
  ·exact .inl ⟨r,hr,e,h⟩
  ·rw [List.mem_singleton.1 hr] at e h;exact .inr ⟨e,h⟩
 ·rintro(⟨r,hr,e,h⟩|⟨e,h⟩)
  ·exact⟨r,List.mem_append.2 (.inl hr),e,h⟩
  ·exact⟨_,List.mem_append.2 (.inr (List.mem_singleton.2 rfl)),e,h⟩
def jW (p:Int->Bool) (j:Nat):List Int:=((List.range j).map fun d:Nat=>(d:Int)).filter p
theorem z_ (p:Int->Bool) (j:Nat):jW p (j+1)=if p j=true then jW p j++ [(j:Int)] else jW p j:=by
 unfold jW;rw [List.range_succ,List.map_append,List.filter_append];by_cases h:p j=true<;>simp [h]
theorem B_ (p:Int->Bool) (j:Nat):(jW p j).length<=j:=by
 unfold jW;exact Nat.le_trans (List.length_filter_le _ _) σ
theorem HR.low {w0 w W:World} {B:Nat} {vl vo:Value} {lg:List Rc} {L:List AQ} (b:HR w W B vl vo lg L) (h:aK w0 w):HR w0 W B vl vo lg L:=
 have hs:=h.size;⟨(b.bg.mono (kG hs)).base hs,(b.bG.mono (kG hs)).base hs,fun x Z=>(b.aZ x Z).base hs,⟨b.ok.pw,fun q O=>by have:=b.ok.lt q O;omega⟩,h.trans b.grow⟩
section
variable {w W W1 W2:World} {B:Nat} {vl vo vh vn:Value} {x:AW}
theorem iL.low {w0:World} (b:iL w W B vl vo vh vn x) (h:aK w0 w):iL w0 W B vl vo vh vn x:=
 have hs:=h.size;⟨b.row,Nat.le_trans hs b.ge,b.aN.mono (kG hs),(b.hs.mono (kG hs)).base hs,b.ne,b.bM.mono (kG hs),h.trans b.grow⟩
end
theorem X8 {n:Int} (w:World) (hn:¬(1<=n/\n<=3)):
  Calls Tryz.prog 11 #[J n] w fun e w'=>e=.returned (.tuple #[.agg #[(),J 0,J 0,(),(),()],J 3])/\aK w w':=by
 have t:(decide (n<1)=true∨(decide (n<1)=false/\decide (3<n)=true)):=by
  by_cases h:n<1
  ·left;simp [h]
  ·right;simp;omega
 obtain⟨wz,hwz⟩:=χ (w.alloc (.cells #[(),J 0,J 0,(),(),()] 33));have R2:Hid (wz.heap[w.heap.size]? =some (.cells #[(),J 0,J 0,(),(),()] 33 (0,0))):=I (by rw [hwz];exact bn _ _);have G1:Hid (aK w wz):=I (by rw [hwz];exact(aG w).alloc _);clear hn;go_enter Tryz.func11,Tryz.ntmps11;go_upto_region 1 with fail
 rw [<-hwz];clear hwz;rcases t with t|⟨t1,t2⟩
 ·go_wp2_with (first|(refine aQ rfl (.tmp 2) (.tmp 11) rfl rfl rfl R2.o dN rfl rfl ?_))
  intro wf rf gf;obtain⟨p0,p1,p2,p3,p4,p5⟩:=bF rf;go_wp2;refine dw (v:=.tuple #[.agg #[(),J 0,J 0,(),(),()],J 3]) (by simp [results,Tryz.results11,go_sem,p0,p1,p2,p3,p4,p5]) rfl ?_;exact⟨rfl,G1.o.grown gf (fun q O=>by have:=bI O;omega)⟩
 ·go_wp2_with (first|(refine aQ rfl (.tmp 2) (.tmp 11) rfl rfl rfl R2.o dN rfl rfl ?_))
  intro wf rf gf;obtain⟨p0,p1,p2,p3,p4,p5⟩:=bF rf;go_wp2;refine dw (v:=.tuple #[.agg #[(),J 0,J 0,(),(),()],J 3]) (by simp [results,Tryz.results11,go_sem,p0,p1,p2,p3,p4,p5]) rfl ?_;exact⟨rfl,G1.o.grown gf (fun q O=>by have:=bI O;omega)⟩
theorem X9 {v:Value} {n:Int} (w:World) (hn:¬(1<=n/\n<=3)):
  Calls Tryz.prog 26 #[J n,v] w fun e w'=>e=.returned (.tuple #[.agg #[(),J 0,J 0,(),(),()],(),J 3])/\aK w w':=by
 have HN:=I hn;clear hn;obtain⟨wb,hwb⟩:=χ (w.alloc (.cells #[(),J 0,J 0,(),(),()] 33));have RB:Hid (wb.heap[w.heap.size]? =some (.cells #[(),J 0,J 0,(),(),()] 33 (0,0))):=I (by rw [hwb];exact bn _ _);have IM:Hid (aK w wb):=I (by rw [hwb];exact(aG w).alloc _);go_enter Tryz.func26,Tryz.ntmps26;go_upto_region 1 with fail
 rw [<-hwb];clear hwb;go_wp2_with fail
 refine(X8 wb HN.o).mono ?_;rintro e w1 ⟨rfl,dZ⟩;obtain⟨w2,rH⟩:=χ (w1.alloc (.cells #[(),J 0,J 0,(),(),()] 33));have G2:=I (show aK wb w2 by rw [rH];exact dZ.alloc _);clear dZ;go_upto_region 2 with fail
 rw [<-rH];clear rH;have RB2:=I (aF RB.o G2.o);go_wp2_with (first|(refine aQ rfl (.tmp 4) (.tmp 21) rfl rfl rfl RB2.o dN rfl rfl ?_))
 intro wf rf gf;obtain⟨p0,p1,p2,p3,p4,p5⟩:=bF rf;go_wp2;refine dw (v:=.tuple #[.agg #[(),J 0,J 0,(),(),()],(),J 3]) (by simp [results,Tryz.results26,go_sem,p0,p1,p2,p3,p4,p5]) rfl ?_;exact⟨rfl,(IM.o.trans G2.o).grown gf (fun q O=>by have:=bI O;omega)⟩
theorem X_ {n m:Nat} {a:Option Addr} {cap:Nat} (w:World) (hn:1<=n/\n<=3) (hm:150<m):
  Calls Tryz.prog 26 #[J n,U a m cap] w fun e w'=>e=.returned (.tuple #[.agg #[(),J 0,J 0,(),(),()],(),J 5])/\aK w w':=by
 have HN:=I hn;have t9:decide ((150:Int)<(m:Int))=true:=by simp;omega
 clear hn hm;obtain⟨wb,hwb⟩:=χ (w.alloc (.cells #[(),J 0,J 0,(),(),()] 33));have RB:Hid (wb.heap[w.heap.size]? =some (.cells #[(),J 0,J 0,(),(),()] 33 (0,0))):=I (by rw [hwb];exact bn _ _);have IM:Hid (aK w wb):=I (by rw [hwb];exact(aG w).alloc _);go_enter Tryz.func26,Tryz.ntmps26;go_upto_region 1 with fail
 rw [<-hwb];clear hwb;go_wp2_with fail
 refine(Qh wb HN.o).mono ?_;rintro e w1 ⟨v1,rfl,Gs,dZ⟩;obtain⟨al,cl,ao,co,ah,ch,an,cn,rfl⟩:=Gs.dJ;clear Gs;generalize gK n=x0 at*;obtain⟨w2,rH⟩:=χ (w1.alloc (.cells #[U al x0.aN.bg.length cl,J x0.aN.aW,J x0.aN.next,U ao x0.aN.bG.length co,U ah x0.aI.length ch,U an x0.bM.length cn] 33));have G2:=I (show aK wb w2 by rw [rH];exact dZ.alloc _);clear dZ;go_upto_region 2 with fail
 rw [<-rH];clear rH;have RB2:=I (aF RB.o G2.o);go_wp2_with (first|(refine aQ rfl (.tmp 4) (.tmp 26) rfl rfl rfl RB2.o dN rfl rfl ?_))
 intro wf rf gf;obtain⟨p0,p1,p2,p3,p4,p5⟩:=bF rf;go_wp2;refine dw (v:=.tuple #[.agg #[(),J 0,J 0,(),(),()],(),J 5]) (by simp [results,Tryz.results26,go_sem,p0,p1,p2,p3,p4,p5]) rfl ?_;exact⟨rfl,(IM.o.trans G2.o).grown gf (fun q O=>by have:=bI O;omega)⟩
theorem x9 {v:Value} {x:AW} (w:World) (hv:Of Ty.wd w.cell? v x) (hl:x.aI.length<=3) (hg:x.aN.bg.length<=100000) (hp:∀r∈bH x.aN.bg,r.aH.length<=4):
  Calls Tryz.prog 33 #[v] w fun e w'=>∃v',e=.returned v'/\bK Ty.int (fun _=>none) w' w.heap.size 3 v' (opensE x)/\aK w w':=by
 obtain⟨al,cl,ao,co,ah,ch,an,cn,rfl⟩:=hv.dJ;obtain⟨q1,q2,-⟩:=hv.ji;have G_:=I (Of.lM q1).1;obtain⟨AN,ch',wG,N,Y,-,hel⟩:=q2;simp only [Value.slice.injEq,true_and] at wG;obtain⟨rfl,rfl⟩:=wG;unfold maxLen at Y;have nH:=I hel;have A3:=I hp;have gC:=I hg;have HOI:Hid (∀y,isOpen x y=true↔wI x.aI y∨ru x.aI (bH x.aN.bg) y):=I (fun y=>Ez);clear hv q1 hel hp hg;have hzb:∀w,(zeroValue 4).run Tryz.prog w=.ok (.bool false) w:=fun w=>by kernel_rfl
 have hmm:=@run_makeMap Tryz.prog;obtain⟨wa,fZ⟩:=χ (w.alloc (.cells #[U al x.aN.bg.length cl,J x.aN.aW,J x.aN.next,U ao x.aN.bG.length co,U ah x.aI.length ch,U an x.bM.length cn] 33));have RA:Hid (wa.heap[w.heap.size]? =some (.cells #[U al x.aN.bg.length cl,J x.aN.aW,J x.aN.next,U ao x.aN.bG.length co,U ah x.aI.length ch,U an x.bM.length cn] 33 (0,0))):=I (by rw [fZ];exact bn _ _);have GA:Hid (aK w wa):=I (by rw [fZ];exact(aG w).alloc _);have SO:Hid (wa.heap.size=w.heap.size+1):=I (by rw [fZ];simp);have uE:=I fZ;clear fZ;go_enter Tryz.func33,Tryz.ntmps33;go_upto_region 1 with fail
 rw [<-uE.o];clear uE;go_upto_region 2 with fail
 obtain⟨wm,hwm⟩:=χ (wa.alloc (.map #[] 0));have HM0:Hid (kD l7 wm (w.heap.size+1) (nP [])):=I (by rw [hwm,<-SO.o];exact kD.new wa);have G1:Hid (aK w wm):=I (by rw [hwm];exact GA.o.alloc _);have R1:Hid (wm.heap[w.heap.size]? =some (.cells #[U al x.aN.bg.length cl,J x.aN.aW,J x.aN.next,U ao x.aN.bG.length co,U ah x.aI.length ch,U an x.bM.length cn] 33 (0,0))):=I (by rw [hwm];exact bQ RA.o _);rw [<-hwm];try rw [SO.o]
 clear hwm;obtain⟨c0,c1,c2,c3,c4,c5⟩:=bF R1.o;have z1:w.heap.size<wm:=(γ R1.o);go_wp2;clear c0 c1 c2 c3 c4 c5 z1;go_loopw [18] (fun i wr=>∃(k:Nat) (ks:List Int),k<=x.aI.length/\i=J k/\aK w wr/\wr.heap[w.heap.size]? =some (.cells #[U al x.aN.bg.length cl,J x.aN.aW,J x.aN.next,U ao x.aN.bG.length co,U ah x.aI.length ch,U an x.bM.length cn] 33 (0,0))/\kD l7 wr (w.heap.size+1) (nP ks)/\∀y,y∈ks↔wI (x.aI.take k) y) (fun i _=>x.aI.length - (intOf i).toNat)
 case atStart=>exact⟨0,[],V,rfl,G1.o,R1.o,HM0.o,fun y=>⟨fun h=>by simp at h,fun h=>absurd h (I9 y)⟩⟩
 case round=>
  obtain⟨k,ks,hk',rfl,hb,hrow,hmap,hks⟩:=hrel;by_cases hlt:k<x.aI.length
  ·obtain⟨bh,oh,vl,vr,vd,rfl,e0,e1,e2,e3,e4,e5,e6,yu,-,-,-,-,Ar,xk⟩:=VW.at_ nH.o k hlt
   obtain⟨il,jl,rfl,-⟩:=id yu;obtain⟨yX,jd,rfl,-⟩:=id xk;obtain⟨ir,jr,rfl,hr1,VY,-,JG⟩:=Ar;unfold maxLen at VY;have og:=I (I_ hlt);have HRN:=I (fun(j:Nat) (hj:j<x.aI[k].ready.length) (y:Int)=>BZ hj y);have NV:Hid (∀y:Int,dP ([]:List Rd) y=false):=I (fun y=>rfl);have HRE:=I JG;have gS:=I hks;have HM:=I hmap;have jw:=I hrow;have HB:=I hb;replace e0:=hb.sub _ _ e0;replace e1:=hb.sub _ _ e1;replace e2:=hb.sub _ _ e2;replace e3:=hb.sub _ _ e3;replace e4:=hb.sub _ _ e4;replace e5:=hb.sub _ _ e5;replace e6:=hb.sub _ _ e6;clear yu xk JG hks hmap hrow hb;generalize x.aI[k]=h at*;go_upto_region 5 with fail
   obtain⟨wo,hwo⟩:=χ (wr.alloc (.cells #[U il h.bg.length jl,J h.aP.a,J h.aP.b,J h.aP.c,J h.aP.d,U ir h.ready.length jr,U yX h.done.length jd] 50));obtain⟨BO,Aq⟩:=χ wr.heap.size;have GO:Hid (aK wr wo):=I (by rw [hwo];exact(aG _).alloc _);have RO:Hid (wo.heap[BO]? =some (.cells #[U il h.bg.length jl,J h.aP.a,J h.aP.b,J h.aP.c,J h.aP.d,U ir h.ready.length jr,U yX h.done.length jd] 50 (0,0))):=I (by rw [hwo,Aq];exact bn _ _);rw [<-hwo,<-Aq];clear hwo Aq e0 e1 e2 e3 e4 e5 e6;obtain⟨f0,f1,f2,f3,f4,f5,f6⟩:=bZ RO.o;have zO:BO<wo.heap.size:=(γ RO.o);go_wp2;clear f0 f1 f2 f3 f4 f5 f6 zO;obtain⟨wx,hwx⟩:=χ wr;rw [<-hwx] at GO HM jw HB;clear hwx;go_loopw [25] (fun i2 wr=>∃(j:Nat) (Jc:List Int),j<=h.ready.length/\i2=J j/\aK w wr/\wr.heap[w.heap.size]? =some (.cells #[U al x.aN.bg.length cl,J x.aN.aW,J x.aN.next,U ao x.aN.bG.length co,U (some ⟨bh,oh,none⟩) x.aI.length ch,U an x.bM.length cn] 33 (0,0))/\kD l7 wr (w.heap.size+1) (nP Jc)/\∀y,y∈Jc↔wI (x.aI.take k) y∨dP (h.ready.take j) y=true) (fun i2 _=>h.ready.length - (intOf i2).toNat)
   case atStart=>exact⟨0,ks,V,rfl,HB.o.trans GO.o,aF jw.o GO.o,HM.o.grown (aO GO.o none) σ,fun y=>by rw [gS.o y];constructor;exact .inl;rintro(a|a);exact a;simp [NV.o] at a⟩
   case round=>
    obtain⟨j,Jc,hj',rfl,gB,iJ,rC,Aa⟩:=hrel;by_cases hjl:j<h.ready.length
    ·obtain⟨br,orr,vp,rfl,t0,t1,-,hP⟩:=VU.at_ HRE.o j hjl
     obtain⟨ap,cp,rfl,-⟩:=id hP;have YI:=I (HRN.o j hjl);have JK:=I Aa;have yI:=I rC;have zu:=I iJ;have jq:=I gB;replace t0:=gB.sub _ _ t0;replace t1:=gB.sub _ _ t1;clear hP Aa rC iJ gB;generalize h.ready[j]=r at*;go_wp2_with (first|(at_mapUpdate;refine KN qN Tryz.underlying51 rfl _ _ _ rfl (yI.o.grown (aO ((aG _).alloc _) none) σ) r.aJ (.bool true) rfl rfl rfl ?_;intro wq hm' hg';have tD:=I hm';have XR:=I hg';clear hm' hg'))
     obtain⟨ks3,L9,hmem⟩:=Ba Jc r.aJ;have hm':=tD.o;rw [L9] at hm';have yh:=I ((jq.o.alloc (.cells #[J r.aJ,U ap r.aH.length cp] 53)).grown XR.o (fun q O=>by have:=bI O;omega));have qF:=I (bJ (aF zu.o ((aG _).alloc (.cells #[J r.aJ,U ap r.aH.length cp] 53))) XR.o iP);have NI:=I hm';clear hm';try go_wp2
     go_roundw
     case rel=>exact⟨j+1,ks3,V,by go_num,yh.o,qF.o,NI.o,fun y=>by rw [hmem,JK.o,YI.o y,or_assoc];constructor<;>(rintro(a|a|a))<;>first|exact .inl a|exact .inr (.inl a)|exact .inr (.inr a.symm)|exact .inr (.inr (by rw [a]))⟩
     case measure=>simp [intOf];omega
    ·have JK:=I Aa
     have yI:=I rC;have zu:=I iJ;have jq:=I gB;clear Aa rC iJ gB;have hTL:h.ready.take j=h.ready:=eG V;rw [hTL] at JK;clear hTL;go_wp2;go_roundw
     case rel=>exact⟨k+1,Jc,V,by go_num,jq.o,zu.o,yI.o,fun y=>by rw [JK.o,og.o y]⟩
     case measure=>simp [intOf];omega
  ·have gS:=I hks
   have HM:=I hmap;have jw:=I hrow;have HB:=I hb;rw [eG V] at gS;clear hks hmap hrow hb;obtain⟨c0,c1,c2,c3,c4,c5⟩:=bF jw.o;have z1:w.heap.size<wr:=(γ jw.o);go_wp2_with fail
   refine(tX (c:=w.cell?) (l:=x.aN.bg) _ HB.o.sub G_.o (τ gC.o)).mono ?_;rintro e w5 ⟨v5,rfl,mW,iY⟩;obtain⟨a5,vR,rfl⟩:=mW.form;have oQ:=I mW;have AV:=I (HB.o.trans iY);have Gp:=I (aF jw.o iY);have HM5:=I (HM.o.grown (aO iY none) σ);have Y_:Hid (w.heap.size+2<=wr.heap.size):=I (τ HM.o.lt);clear mW iY c0 c1 c2 c3 c4 c5 z1;have hdl:(bH x.aN.bg).length<=100000:=by unfold bH;rw [List.length_map];exact Nat.le_trans (List.length_filter_le _ _) gC.o
   obtain⟨D,hD⟩:=χ (bH x.aN.bg);rw [<-hD] at oQ HOI A3 hdl ⊢;clear hD;obtain⟨BD,hBD⟩:=χ wr.heap.size;rw [<-hBD] at oQ Y_;clear hBD;go_wp2;go_loopw [39] (fun i wr=>∃(k:Nat) (ks:List Int),k<=D.length/\i=J k/\aK w wr/\wr.heap[w.heap.size]? =some (.cells #[U al x.aN.bg.length cl,J x.aN.aW,J x.aN.next,U ao x.aN.bG.length co,U ah x.aI.length ch,U an x.bM.length cn] 33 (0,0))/\kD l7 wr (w.heap.size+1) (nP ks)/\bK Ty.rd w.cell? wr BD 53 (U a5 D.length vR) D/\∀y,y∈ks↔wI x.aI y∨ru x.aI (D.take k) y) (fun i _=>D.length - (intOf i).toNat)
   case atStart=>exact⟨0,ks,V,rfl,AV.o,Gp.o,HM5.o,oQ.o,fun y=>by rw [gS.o y];constructor;exact .inl;rintro(a|a);exact a;exact absurd a (EC _ _)⟩
   case round=>
    obtain⟨k3,ks3,A3l,rfl,fB,DY,Gi,Sz,SA⟩:=hrel;by_cases hlt3:k3<D.length
    ·obtain⟨bd,cs,rfl,hRR,hAt⟩:=Sz.get ε k3 hlt3
     obtain⟨vp,rfl,hdi,hP⟩:=hRR;have t0:=hAt 0 _ rfl;have t1:=hAt 1 _ rfl;simp only [show Ty.rd.size=2 from rfl,Nat.add_zero] at t0 t1;obtain⟨ap,cp,rfl,-⟩:=id hP;have HDN:=I (ED (hs:=x.aI) hlt3);have BW:=I (A3.o _ (List.getElem_mem hlt3));have Dk:=I hP;have ZN:=I SA;have NI:=I Gi;have qF:=I DY;have lU:=I fB;have n_:=I Sz;clear hP SA Gi DY fB Sz hAt;generalize D[k3]=r at*;go_upto_region 14 with fail
     obtain⟨wq3,hwq⟩:=χ (wr.alloc (.cells #[J r.aJ,U ap r.aH.length cp] 53));obtain⟨BR,eI⟩:=χ wr.heap.size;have GQ:Hid (aK wr wq3):=I (by rw [hwq];exact(aG _).alloc _);have RQ:Hid (wq3.heap[BR]? =some (.cells #[J r.aJ,U ap r.aH.length cp] 53 (0,0))):=I (by rw [hwq,eI];exact bn _ _);have PV:Hid (w.heap.size+2<=BR):=I (τ NI.o.lt);rw [<-hwq,<-eI];clear hwq eI t0 t1;have Eb:=I (aF qF.o GQ.o);obtain⟨c0,c1,c2,c3,c4,c5⟩:=bF Eb.o;have z1:w.heap.size<wq3:=(γ Eb.o);go_wp2;clear c0 c1 c2 c3 c4 c5 z1;obtain⟨wx,hwx⟩:=χ wr;rw [<-hwx] at GQ NI qF lU n_;clear hwx;go_loopw [46] (fun i2 wr=>∃(j:Nat) (Jc:List Int),j<=x.aI.length/\i2=J j/\aK w wr/\Sub w.cell? wr.cell?/\wr.heap[w.heap.size]? =some (.cells #[U al x.aN.bg.length cl,J x.aN.aW,J x.aN.next,U ao x.aN.bG.length co,U ah x.aI.length ch,U an x.bM.length cn] 33 (0,0))/\kD l7 wr (w.heap.size+1) (nP Jc)/\bK Ty.rd w.cell? wr BD 53 (U (some ⟨bd,0,none⟩) D.length vR) D/\wr.heap[BR]? =some (.cells #[J r.aJ,U ap r.aH.length cp] 53 (0,0))/\∀y,y∈Jc↔(wI x.aI y∨ru x.aI (D.take k3) y)∨(r.aJ=y/\BU x.aI r j)) (fun i2 _=>x.aI.length - (intOf i2).toNat)
     case atStart=>exact⟨0,ks3,V,rfl,lU.o.trans GQ.o,(lU.o.trans GQ.o).sub,Eb.o,NI.o.grown (aO GQ.o none) σ,n_.o.grow GQ.o,RQ.o,fun y=>by rw [ZN.o y];constructor;exact .inl;rintro(a|⟨-,a⟩);exact a;exact absurd a Ja⟩
     case round=>
      obtain⟨j,Jc,hj',rfl,gB,hs2,iJ,rC,SB,XT,Aa⟩:=hrel;by_cases hjl:j<x.aI.length
      ·obtain⟨bh,oh,vl,vr,vd,rfl,e0,e1,e2,e3,e4,e5,e6,yu,-,-,-,-,Ar,xk⟩:=VW.at_ nH.o j hjl
       obtain⟨il,jl,rfl,-⟩:=id yu;obtain⟨ir,jr,rfl,-⟩:=id Ar;obtain⟨yX,jd,rfl,-⟩:=id xk;have KK:=I (Jb (r:=r) (dM hjl));have UN:=I xk;have JK:=I Aa;have yI:=I rC;have zu:=I iJ;have jq:=I gB;have pI:=I SB;have Il:=I XT;replace e0:=gB.sub _ _ e0;replace e1:=gB.sub _ _ e1;replace e2:=gB.sub _ _ e2;replace e3:=gB.sub _ _ e3;replace e4:=gB.sub _ _ e4;replace e5:=gB.sub _ _ e5;replace e6:=gB.sub _ _ e6;clear yu Ar xk Aa rC iJ gB hs2 SB XT;generalize x.aI[j]=h at*;go_upto_region 17 with fail
       obtain⟨wo,hwo⟩:=χ (wr.alloc (.cells #[U il h.bg.length jl,J h.aP.a,J h.aP.b,J h.aP.c,J h.aP.d,U ir h.ready.length jr,U yX h.done.length jd] 50));obtain⟨BO,Aq⟩:=χ wr.heap.size;have GO:Hid (aK wr wo):=I (by rw [hwo];exact(aG _).alloc _);have RO:Hid (wo.heap[BO]? =some (.cells #[U il h.bg.length jl,J h.aP.a,J h.aP.b,J h.aP.c,J h.aP.d,U ir h.ready.length jr,U yX h.done.length jd] 50 (0,0))):=I (by rw [hwo,Aq];exact bn _ _);rw [<-hwo,<-Aq];clear hwo Aq e0 e1 e2 e3 e4 e5 e6;have RQO:=I (aF Il.o GO.o);obtain⟨s0,s1⟩:=jP RQO.o;have zR:BR<wo.heap.size:=(γ RQO.o);go_wp2_with fail
       refine(KE (n:=(j:Int)) _ (Dk.o.mono (jq.o.trans GO.o).sub) (τ BW.o)).mono ?_;rintro e w6 ⟨v6,rfl,tZ,nS⟩;obtain⟨a6,c6,rfl⟩:=dG tZ;have G6:=I (GO.o.trans nS);have uL:=I (aF RQO.o nS);have RO6:=I (aF RO.o nS);clear tZ nS s0 s1 zR;by_cases hpl:jT r.aH (j:Int)=[]
       ·have zi:¬(0:Int)<((jT r.aH (j:Int)).length:Int):=by rw [hpl];simp
        have pU:=I hpl;clear hpl;generalize jT r.aH (j:Int)=pl at*;go_wp2;go_roundw
        case rel=>exact⟨j+1,Jc,V,by go_num,jq.o.trans G6.o,(jq.o.trans G6.o).sub,aF zu.o G6.o,yI.o.grown (aO G6.o none) σ,pI.o.grow G6.o,uL.o,fun y=>by rw [JK.o y,KK.o];constructor;(rintro(a|⟨a,b⟩);exact .inl a;exact .inr ⟨a,.inl b⟩);(rintro(a|⟨a,b|b⟩);exact .inl a;exact .inr ⟨a,b⟩;exact absurd pU.o b.1)⟩
        case measure=>simp [intOf];omega
       ·have zi:(0:Int)<((jT r.aH (j:Int)).length:Int):=by have:=List.length_pos_iff.2 hpl;omega
        have pU:=I hpl;clear hpl;generalize jT r.aH (j:Int)=pl at*;obtain⟨s0,s1⟩:=jP uL.o;obtain⟨f0,f1,f2,f3,f4,f5,f6⟩:=bZ RO6.o;have zR:BR<w6.heap.size:=(γ uL.o);have zO:BO<w6.heap.size:=(γ RO6.o);go_wp2_with fail
        refine(zC (n:=r.aJ) _ (UN.o.mono (jq.o.trans G6.o).sub)).mono ?_;rintro e w7 ⟨rfl,jQ⟩;have G7:=I (G6.o.trans jQ);have KS:=I (aF uL.o jQ);clear jQ s0 s1 f0 f1 f2 f3 f4 f5 f6 zR zO;obtain⟨tn,htn⟩:=χ (decide (r.aJ∈h.done));rw [<-htn];have Rk:=I htn;clear htn;cases tn with
        |true=>
         have yF:=I (of_decide_eq_true Rk.o.symm);go_wp2;go_roundw
         case rel=>exact⟨j+1,Jc,V,by go_num,jq.o.trans G7.o,(jq.o.trans G7.o).sub,aF zu.o G7.o,yI.o.grown (aO G7.o none) σ,pI.o.grow G7.o,KS.o,fun y=>by rw [JK.o y,KK.o];constructor;(rintro(a|⟨a,b⟩);exact .inl a;exact .inr ⟨a,.inl b⟩);(rintro(a|⟨a,b|b⟩);exact .inl a;exact .inr ⟨a,b⟩;exact absurd yF.o b.2)⟩
         case measure=>simp [intOf];omega
        |false=>
         have yF:=I (of_decide_eq_false Rk.o.symm);have HM7:=I (yI.o.grown (aO G7.o none) σ);obtain⟨s0,s1⟩:=jP KS.o;have zR:BR<w7.heap.size:=(γ KS.o);go_wp2_with (first|(at_mapUpdate;refine KN qN Tryz.underlying51 rfl _ _ _ rfl (HM7.o) r.aJ (.bool true) rfl rfl rfl ?_;intro wq hm' hg';have tD:=I hm';have XR:=I hg';clear hm' hg'))
         obtain⟨ks3,L9,hmem⟩:=Ba Jc r.aJ;have hm':=tD.o;rw [L9] at hm';have yh:=I ((jq.o.trans G7.o).grown XR.o (fun q O=>by have:=bI O;omega));have A0L:=I (bJ (aF zu.o G7.o) XR.o iP);have A0M:=I (bJ KS.o XR.o (by intro e;have:=bI e;have:=PV.o;omega));have A0N:=I ((pI.o.grow G7.o).kept XR.o (eF pI.o (τ Y_.o)));have A0O:=I hm';clear hm' s0 s1 zR;try go_wp2
         go_roundw
         case rel=>exact⟨j+1,ks3,V,by go_num,yh.o,yh.o.sub,A0L.o,A0O.o,A0N.o,A0M.o,fun y=>by rw [hmem,JK.o y,KK.o];constructor;(rintro((a|⟨a,b⟩)|a);exact .inl a;exact .inr ⟨a,.inl b⟩;exact .inr ⟨a.symm,.inr ⟨pU.o,yF.o⟩⟩);(rintro(a|⟨a,b⟩);exact .inl (.inl a);exact .inr a.symm)⟩
         case measure=>simp [intOf];omega
      ·have JK:=I Aa
       have yI:=I rC;have zu:=I iJ;have jq:=I gB;have pI:=I SB;clear Aa rC iJ gB hs2 SB XT;have hjE:j=x.aI.length:=by omega
       subst hjE;go_wp2;go_roundw
       case rel=>exact⟨k3+1,Jc,V,by go_num,jq.o,zu.o,yI.o,pI.o,fun y=>by rw [JK.o,HDN.o y,or_assoc]⟩
       case measure=>simp [intOf];omega
    ·have ZN:=I SA
     have NI:=I Gi;have lU:=I fB;rw [eG V] at ZN;clear SA Gi DY fB Sz;have HPE:Hid (jW (fun y=>decide (y∈ks3)) 1344=opensE x):=I (by
      unfold jW opensE;congr 1;funext y;rw [Bool.eq_iff_iff,HOI.o y,decide_eq_true_iff,ZN.o y])
     go_wp2;go_loopw [12,70] (fun s12 i wr=>∃j:Nat,j<=1344/\i=J j/\aK w wr/\kD l7 wr (w.heap.size+1) (nP ks3)/\bK Ty.int (fun _=>none) wr (w.heap.size+2) 3 s12 (jW (fun y=>decide (y∈ks3)) j)) (fun _ i _=>1344 - (intOf i).toNat)
     case atStart=>exact⟨0,V,rfl,lU.o,NI.o,bK.nil _ _ _ _ _⟩
     case round=>
      obtain⟨j,hj',rfl,iE,Uo,XU⟩:=hrel;obtain⟨a9,c9,rfl⟩:=XU.form;have og:=I (z_ (fun y=>decide (y∈ks3)) j);have Am:=I (B_ (fun y=>decide (y∈ks3)) j);have HM:=I Uo;have HO:=I XU;have HB:=I iE;have J3:Hid (w.heap.size+2<=wr.heap.size):=I (τ Uo.lt);clear iE Uo XU;by_cases hj:j<1344
      ·have hji:(j:Int)<1344:=by omega
       generalize jW (fun y=>decide (y∈ks3)) j=ls at*;by_cases hin:(j:Int)∈ks3
       ·have HG:=I (Qw hin)
        rw [bC (decide_eq_true hin)] at og;clear hin;go_wp2_with (first|(at_lookup;refine rV qN Tryz.underlying51 hzb rfl _ _ rfl HM.o (j:Int) rfl rfl ?_;rw [HG.o])|(at_builtin;refine cO (c:=fun _=>none) (base:=w.heap.size+2) (l:=ls) (m:=[(j:Int)]) jL rfl jX ε rfl (.tmp 76) (.tmp 78) rfl rfl (HO.o.grow ((aG _).alloc _)) rfl (Src.dU (T:=Ty.int) (x:=(j:Int)) (cs:=#[J (j:Int)]) ⟨rfl,ku V V⟩ _ _ ?d1) ?d2 ?d3 ?_))
        case d1=>first|rfl|simp
        case d2=>have:=Am.o;simp;omega
        case d3=>have:=J3.o;simp;omega
        intro a8 c8 w9 gX fV iE;have yj:=HO.o.lt;have kR:Hid (aK w w9):=I ((HB.o.alloc _).grown fV (fun q O=>by have:=(yj q O).1;omega));have HM9:=I ((HM.o.grown (aO ((aG wr).alloc (.cells #[J (j:Int)] 3)) none) σ).grown fV (by intro e;have:=(yj _ e).1;omega));have jE:=I gX;clear gX fV iE yj;go_wp2;go_roundw
        case rel=>exact⟨j+1,V,by go_num,kR.o,HM9.o,by rw [og.o];exact jE.o⟩
        case measure=>simp [intOf];omega
       ·have HG:=I (KO hin)
        rw [aV (by simpa using hin)] at og;clear hin;go_wp2_with (first|(at_lookup;refine rV qN Tryz.underlying51 hzb rfl _ _ rfl HM.o (j:Int) rfl rfl ?_;rw [HG.o]))
        go_roundw
        case rel=>exact⟨j+1,V,by go_num,HB.o,HM.o,by rw [og.o];exact HO.o⟩
        case measure=>simp [intOf];omega
      ·have hjE:j=1344:=by omega
       subst hjE;rw [HPE.o] at HO ⊢;obtain⟨ls,hls⟩:=χ (opensE x);rw [<-hls] at HO ⊢;have HLS:=I hls;clear hls;go_wp2;go_ret;exact⟨_,rfl,by rw [<-HLS.o];exact HO.o.base (Nat.le_add_right _ 2),HB.o⟩
theorem Zk {c:CM} {w wr w3 w5:World} {q:Nat} (h:w.heap.size+2<=wr.heap.size) (hg:aK wr w3) (g:w3.grownBy w5 (some q)) (O:q<=w.heap.size+1):Sub (ov (dr c w wr) wr w3) (dr c w w5):=fun a v e=>by
 unfold ov at e;split at e
 ·unfold dr at e ⊢
  split at e
  ·rw [bC ‹_›];exact e
  ·split at e
   ·cases e
   ·rw [aV ‹_›,aV ‹_›]
    exact bV (hg.sub _ _ e) g V
 ·unfold dr
  rw [aV V,aV V];exact bV e g V
theorem Qj {c:CM} {v:Value} {x:AW} {k:Nat} (w:World) (hc:Sub c w.cell?) (hv:Of Ty.wd c v x) (hk:WK k x) (h9:k+192<=90000):
  Calls Tryz.prog 66 #[v] w fun e w'=>∃v',e=.returned v'/\Of Ty.wd (ov c w w') v' (iT x)/\aK w w':=by
 have HC:=I hc;have HV:=I hv;have M:=I hk;have HN:=I (Sr hk);have H9:=I h9;obtain⟨al,cl,ao,co,ah,ch,an,cn,rfl⟩:=hv.dJ;clear hc hv hk h9;obtain⟨wa,fZ⟩:=χ (w.alloc (.cells #[U al x.aN.bg.length cl,J x.aN.aW,J x.aN.next,U ao x.aN.bG.length co,U ah x.aI.length ch,U an x.bM.length cn] 33));obtain⟨wz,hwz⟩:=χ (wa.alloc (.cells #[(),J 0,J 0,(),(),()] 33));have hsz:wa.heap.size=w.heap.size+1:=by rw [fZ];simp
 have R1:Hid (wz.heap[w.heap.size]? =some (.cells #[U al x.aN.bg.length cl,J x.aN.aW,J x.aN.next,U ao x.aN.bG.length co,U ah x.aI.length ch,U an x.bM.length cn] 33 (0,0))):=I (by rw [hwz,fZ];exact bQ (bn _ _) _);have R2:Hid (wz.heap[w.heap.size+1]? =some (.cells #[(),J 0,J 0,(),(),()] 33 (0,0))):=I (by rw [hwz,<-hsz];exact bn _ _);have G1:Hid (aK w wz):=I (by rw [hwz,fZ];exact((aG w).alloc _).alloc _);have HZ:Hid (wz.heap.size=w.heap.size+2):=I (by rw [hwz,fZ];simp);go_enter Tryz.func66,Tryz.ntmps66;go_wp2;rw [<-fZ];try rw [hsz]
 rw [<-hwz];clear fZ hwz hsz;go_loopw [] (fun wr=>∃m,DR c w x k wr m) (fun wr=>lst (DR c w x k wr))
 case atStart=>exact⟨_,_,x,k,R1.o,HV.o.mono (uC HC.o),M.o,rfl,Nat.le_refl _,G1.o,by have:=HZ.o;omega,R2.o,rfl⟩
 case round=>
  obtain⟨hsp,-⟩:=Gg hrel;generalize lst (DR c w x k wr)=m at*;clear hrel;obtain⟨row,y,j,hrow,Z,hj,hdr,hle,hg,hsz,hrz,hm⟩:=hsp;obtain⟨iC,iD,lY,lZ,Nq,IY,OL,OM,hrw⟩:=Z.dJ;simp only [Value.agg.injEq] at hrw;subst hrw;have jw:=I hrow;have HX:=I Z;have HJ:=I hj;have HDR:=I hdr;have SL:=I hle;have HG:=I hg;have J3:=I hsz;have cW:=I hrz;have HM:=I hm;obtain⟨x1,x2,x3,x4,x5,x6⟩:=bF hrow;have zX:w.heap.size<wr:=(γ hrow);clear hrow Z hj hdr hle hg hsz hrz hm;by_cases hn:y.bM=[]
  ·have t:decide (0<y.bM.length)=false:=by rw [hn];rfl
   have HE:Hid (iT x=y):=I (by rw [HDR.o,qB hn]);clear hn;have zr:w.heap.size+1<wr:=(γ cW.o);go_wp2_with (first|(refine aQ rfl (.tmp 2) (.tmp 13) rfl rfl rfl cW.o dN rfl rfl ?_))
   intro w7 r7 g7;obtain⟨p0,p1,p2,p3,p4,p5⟩:=bF r7;go_wp2;refine dw (v:=.agg #[U iC y.aN.bg.length iD,J y.aN.aW,J y.aN.next,U lY y.aN.bG.length lZ,U Nq y.aI.length IY,U OL y.bM.length OM]) (by simp [results,Tryz.results66,go_sem,p0,p1,p2,p3,p4,p5]) rfl ?_;rw [HE.o];exact⟨_,rfl,HX.o.mono (XO g7 V),HG.o.grown g7 (fun q O=>by have:=bI O;omega)⟩
  ·have t:decide (0<y.bM.length)=true:=decide_eq_true (List.length_pos_iff.2 hn)
   obtain⟨hc1,hc2⟩:=NK hn;have HC1:=I hc1;have HC2:=I hc2;clear hn hc1 hc2;obtain⟨n7,G7,JQ⟩:=HJ.o.wi;have Ol:=I (BI (c:=dr c w wr) (s:=⟨2,0,[]⟩) (vs:=.agg #[J 2,J 0,()]) wr (Gh HC.o HG.o) HX.o ⟨_,rfl,_,rfl,(show I64 2 by unfold I64;decide),gZ,Sl.nil _ _⟩ JQ HJ.o.few (by have:=SL.o;have:=HN.o;have:=H9.o;have:=HC2.o;omega));clear JQ;go_wp2_with fail
   refine Ol.o.mono ?_;rintro e w3 ⟨v3,rfl,FY,fB⟩;have HJ3:=I (HJ.o.step ⟨2,0,[]⟩ (by have:=SL.o;have:=HN.o;have:=H9.o;have:=HC2.o;omega));generalize jZ y ⟨2,0,[]⟩=y3 at*;generalize eU y ⟨2,0,[]⟩=er at*;obtain⟨Dh,Di,Kr,co3,Vo,ch3,JU,cn3,rfl⟩:=FY.dJ;have Dj:=I FY;have lU:=I fB;have RW3:=I (aF jw.o fB);have RZ3:=I (aF cW.o fB);have G3:=I (HG.o.trans fB);clear FY fB Ol x1 x2 x3 x4 x5 x6 zX;go_wp2_with (first|(refine aQ rfl (.tmp 1) (.tmp 11) rfl rfl rfl RW3.o dN rfl rfl ?_))
   intro w5 r5 g5;have XP:Hid (DR c w x k w5 (o_ y3.bM)):=I ⟨_,y3,j+1,r5,Dj.o.mono (Zk J3.o lU.o g5 V),HJ3.o,HDR.o.trans HC1.o,by have:=SL.o;have:=HC2.o;omega,G3.o.grown g5 (fun q O=>by have:=bI O;omega),by have:=g5.size;have:=(γ RZ3.o);omega,bJ RZ3.o g5 iP,rfl⟩;clear r5 g5;go_wp2;go_roundw
   case rel=>exact⟨_,XP.o⟩
   case measure=>
    have N:=(Gg ⟨_,XP.o⟩).2 _ XP.o;have Y:=HC2.o;have h3:=HM.o;omega
theorem VT {v:Value} {x:AW} {k:Nat} (w:World) (hv:Of Ty.wd w.cell? v x) (hk:WK k x):
  Calls Tryz.prog 30 #[v] w fun e w'=>e=.returned (.bool (idleA x))/\aK w w':=by
 obtain⟨n,G,hwi⟩:=hk.wi;have Ux:=I (fun(W:World) (hW:aK w W)=>x9 W (hv.mono hW.sub) hk.I5.2 (by have:=hk.few.bg;have:=hk.le;omega) (fun r hr=>(g_ (hwi.core.reg.ok _ (hwi.core.dec.reg r hr)).2).2.1));have HLEN:=I (VO x);obtain⟨al,cl,ao,co,ah,ch,an,cn,rfl⟩:=hv.dJ;clear hv hk hwi;obtain⟨wz,hwz⟩:=χ (w.alloc (.cells #[U al x.aN.bg.length cl,J x.aN.aW,J x.aN.next,U ao x.aN.bG.length co,U ah x.aI.length ch,U an x.bM.length cn] 33));have R1:Hid (wz.heap[w.heap.size]? =some (.cells #[U al x.aN.bg.length cl,J x.aN.aW,J x.aN.next,U ao x.aN.bG.length co,U ah x.aI.length ch,U an x.bM.length cn] 33 (0,0))):=I (by rw [hwz];exact bn _ _);have G1:Hid (aK w wz):=I (by rw [hwz];exact(aG w).alloc _);obtain⟨b1,N⟩:∃b,b=((x.bM.length:Int)==0):=⟨_,rfl⟩;obtain⟨b2,Y⟩:∃b,b=((x.aN.bG.length:Int)==0):=⟨_,rfl⟩;rw [<-N,<-Y] at HLEN;go_enter Tryz.func30,Tryz.ntmps30;go_upto_region 1 with fail
 rw [<-hwz];clear hwz;obtain⟨x1,x2,x3,x4,x5,x6⟩:=bF R1.o;have zX:w.heap.size<wz:=(γ R1.o);cases b1 with
 |false=>
  have t1:((x.bM.length:Int)==0)=false:=N.symm;clear N Y;go_wp2;go_ret;exact⟨by rw [HLEN.o];rfl,G1.o⟩
 |true=>
  have t1:((x.bM.length:Int)==0)=true:=N.symm;clear N;cases b2 with
  |false=>
   have t2:((x.aN.bG.length:Int)==0)=false:=Y.symm;clear Y;go_wp2;go_ret;exact⟨by rw [HLEN.o];rfl,G1.o⟩
  |true=>
   have t2:((x.aN.bG.length:Int)==0)=true:=Y.symm;clear Y;go_wp2_with fail
   refine(Ux.o _ G1.o).mono ?_;rintro e w1 ⟨v1,rfl,ho,hg⟩;obtain⟨a1,c1,rfl⟩:=ho.form;obtain⟨b3,h3⟩:∃b,b=(((opensE x).length:Int)==0):=⟨_,rfl⟩;rw [<-h3] at HLEN;generalize opensE x=os at*;have t3:((os.length:Int)==0)=b3:=h3.symm;have G2:=I (G1.o.trans hg);clear ho hg h3;go_wp2;go_ret;exact⟨by rw [HLEN.o];rfl,G2.o⟩
theorem LA {c:CM} {w W W2:World} (hg:aK W W2):Sub (dr c w W) (dr c w W2):=fun a v e=>by
 unfold dr at e ⊢;split at e
 ·rw [bC ‹_›];exact e
 ·rw [aV ‹_›]
  split at e
  ·cases e
  ·rw [aV ‹_›];exact hg.sub _ _ e
theorem Qk {c:CM} {v:Value} {x:AW} {k:Nat} (w:World) (hc:Sub c w.cell?) (hv:Of Ty.wd c v x) (hk:WK k x) (h9:k+1100<=90000):
  Calls Tryz.prog 28 #[v] w fun e w'=>∃v',e=.returned v'/\Of Ty.wd (ov c w w') v' (fQ x)/\aK w w':=by
 have HC:=I hc;have HV:=I hv;have M:=I hk;have H9:=I h9;obtain⟨al,cl,ao,co,ah,ch,an,cn,rfl⟩:=hv.dJ;clear hc hv hk h9;obtain⟨wa,fZ⟩:=χ (w.alloc (.cells #[U al x.aN.bg.length cl,J x.aN.aW,J x.aN.next,U ao x.aN.bG.length co,U ah x.aI.length ch,U an x.bM.length cn] 33));obtain⟨wz,hwz⟩:=χ (wa.alloc (.cells #[(),J 0,J 0,(),(),()] 33));have hsz:wa.heap.size=w.heap.size+1:=by rw [fZ];simp
 have R1:Hid (wz.heap[w.heap.size]? =some (.cells #[U al x.aN.bg.length cl,J x.aN.aW,J x.aN.next,U ao x.aN.bG.length co,U ah x.aI.length ch,U an x.bM.length cn] 33 (0,0))):=I (by rw [hwz,fZ];exact bQ (bn _ _) _);have R2:Hid (wz.heap[w.heap.size+1]? =some (.cells #[(),J 0,J 0,(),(),()] 33 (0,0))):=I (by rw [hwz,<-hsz];exact bn _ _);have G1:Hid (aK w wz):=I (by rw [hwz,fZ];exact((aG w).alloc _).alloc _);have HZ:Hid (wz.heap.size=w.heap.size+2):=I (by rw [hwz,fZ];simp);go_enter Tryz.func28,Tryz.ntmps28;go_upto_region 1 with fail
 rw [<-fZ];try rw [hsz]
 rw [<-hwz];clear fZ hwz hsz;obtain⟨x1,x2,x3,x4,x5,x6⟩:=bF R1.o;have zX:w.heap.size<wz:=(γ R1.o);have HXZ:=I (HV.o.mono (uC (w:=w) (W:=wz) HC.o));go_wp2_with fail
 refine(Qj (c:=dr c w wz) wz (Gh HC.o G1.o) HXZ.o M.o (τ H9.o)).mono ?_;rintro e w1 ⟨v1,rfl,Gs,dZ⟩;obtain⟨x0,J6⟩:=χ (iT x);rw [<-J6] at Gs;have Y9:=I J6;clear J6;obtain⟨al0,cl0,ao0,co0,ah0,ch0,an0,cn0,rfl⟩:=Gs.dJ;have Kq:=I Gs;have fY:=I dZ;have R11:=I (aF R1.o dZ);have SN:=I (aF R2.o dZ);clear Gs dZ x1 x2 x3 x4 x5 x6 zX;go_wp2_with (first|(refine aQ rfl (.tmp 1) (.tmp 6) rfl rfl rfl R11.o dN rfl rfl ?_))
 intro w2 r2 g2;have Qa:=I r2;have Gu:=I (bJ SN.o g2 iP);have AX:=I (Kq.o.mono (Zk (τ HZ.o) fY.o g2 V));have G2:Hid (aK w w2):=I ((G1.o.trans fY.o).grown g2 (fun q O=>by have:=bI O;omega));have Gl:Hid (w.heap.size+2<=w2.heap.size):=I (τ (γ Gu.o));clear r2 g2;go_upto_region 2 with fail
 obtain⟨w3,Pn⟩:=χ (w2.alloc (.cells #[J 3,J 2,J 1,J 0] 3));obtain⟨BL,hBL⟩:=χ w2.heap.size;have RL:Hid (w3.heap[BL]? =some (.cells #[J 3,J 2,J 1,J 0] 3 (0,0))):=I (by rw [Pn,hBL];exact bn _ _);have AU:Hid (aK w2 w3):=I (by rw [Pn];exact(aG _).alloc _);have Fv:Hid (w.heap.size+2<=BL):=I (τ Gl.o);have NV:Hid (rd x 0=x0):=I Y9.o.symm;go_wp2;rw [<-Pn,<-hBL];clear Pn hBL;go_loopw [9] (fun i wr=>∃(r:Nat) (row:Array Value),r<=4/\i=J r/\wr.heap[w.heap.size]? =some (.cells row 33 (0,0))/\Of Ty.wd (dr c w wr) (.agg row) (rd x r)/\aK w wr/\wr.heap[w.heap.size+1]? =some (.cells #[(),J 0,J 0,(),(),()] 33 (0,0))/\wr.heap[BL]? =some (.cells #[J 3,J 2,J 1,J 0] 3 (0,0))) (fun i _=>4 - (intOf i).toNat)
 case atStart=>exact⟨0,_,V,rfl,aF Qa.o AU.o,by rw [NV.o];exact AX.o.mono (LA AU.o),G2.o.trans AU.o,aF Gu.o AU.o,RL.o⟩
 case round=>
  obtain⟨r,row,Wi,rfl,hrow,Z,hg,hrz,hrl⟩:=hrel;have HJ:=I (M.o.rd (τ H9.o) r Wi);have og:Hid (r<4->rd x (r+1)=iT (jy (rd x r) (3 - r))):=I (fun _=>rfl);have HEN:Hid (r=4->rd x r=fQ x):=I (fun e=>by rw [e];rfl);obtain⟨y,hy⟩:=χ (rd x r);rw [<-hy] at Z HJ og HEN;clear hy;obtain⟨iC,iD,lY,lZ,Nq,IY,OL,OM,hrw⟩:=Z.dJ;simp only [Value.agg.injEq] at hrw;subst hrw;have jw:=I hrow;have HX:=I Z;have HG:=I hg;have cW:=I hrz;have Lh:=I hrl;have hsw:w.heap.size+1<wr:=(γ hrz);have HSW:=I hsw;clear hrow Z hg hrz hrl hsw;obtain⟨x1,x2,x3,x4,x5,x6⟩:=bF jw.o;have zX:w.heap.size<wr:=(γ jw.o);by_cases hlt:r<4
  ·obtain⟨j,hj⟩:∃j:Int,j=((3 - r:Nat):Int):=⟨_,rfl⟩
   have hcl:wr.cell? ⟨BL,r,none⟩=some (J j):=by
    obtain⟨l0,l1,l2,l3⟩:=aT Lh.o;have:r=0∨r=1∨r=2∨r=3:=by omega
    rcases this with rfl|rfl|rfl|rfl
    ·rw [hj];exact l0
    ·rw [hj];exact l1
    ·rw [hj];exact l2
    ·rw [hj];exact l3
   have zL:BL<wr.heap.size:=(γ Lh.o);have L5:Hid (jZ y ⟨6,j,[]⟩=jy y (3 - r)):=I (by rw [hj];exact Sv y (3 - r));have HJI:Hid (I64 j):=I (ku V V);obtain⟨n7,G7,JQ⟩:=HJ.o.wi;have Ol:=I (BI (c:=dr c w wr) (s:=⟨6,j,[]⟩) (vs:=.agg #[J 6,J j,()]) wr (Gh HC.o HG.o) HX.o ⟨_,rfl,_,rfl,(show I64 6 by unfold I64;decide),HJI.o,Sl.nil _ _⟩ JQ HJ.o.few (τ H9.o));clear JQ hj;go_wp2_with fail
   refine Ol.o.mono ?_;rintro e w5 ⟨v5,rfl,Nj,iY⟩;have HJ5:=I (HJ.o.step ⟨6,j,[]⟩ (τ H9.o));rw [L5.o] at Nj HJ5;generalize eU y ⟨6,j,[]⟩=er at*;obtain⟨y5,hy5⟩:=χ (jy y (3 - r));rw [<-hy5] at Nj HJ5 og;clear hy5;obtain⟨al5,cl5,ao5,co5,ah5,ch5,an5,cn5,rfl⟩:=Nj.dJ;have F5:=I Nj;have AV:=I iY;have J2:=I (aF jw.o iY);have RZ5:=I (aF cW.o iY);have RL5:=I (aF Lh.o iY);have G5:=I (HG.o.trans iY);clear Nj iY Ol x1 x2 x3 x4 x5 x6 zX hcl zL;go_wp2_with (first|(refine aQ rfl (.tmp 1) (.tmp 18) rfl rfl rfl J2.o dN rfl rfl ?_))
   intro w6 r6 g6;have R6:=I r6;have RZ6:=I (bJ RZ5.o g6 iP);have RL6:=I (bJ RL5.o g6 (by intro e;have:=bI e;have:=Fv.o;omega));have KB:=I (F5.o.mono (Zk (τ HSW.o) AV.o g6 V));have G6:=I (G5.o.grown g6 (fun q O=>by have:=bI O;omega));have gD:Hid (w.heap.size+1<w6):=I ((γ RZ6.o));clear r6 g6;obtain⟨x1,x2,x3,x4,x5,x6⟩:=bF R6.o;have zX:w.heap.size<w6:=(γ R6.o);go_wp2_with fail
   refine(Qj (c:=dr c w w6) w6 (Gh HC.o G6.o) KB.o HJ5.o (τ H9.o)).mono ?_;rintro e w7 ⟨v7,rfl,Dc,jQ⟩;rw [<-og.o hlt] at Dc;obtain⟨y7,Ir⟩:=χ (rd x (r+1));rw [<-Ir] at Dc;have gA:=I Ir;clear Ir;obtain⟨al7,cl7,ao7,co7,ah7,ch7,an7,cn7,rfl⟩:=Dc.dJ;have JR:=I Dc;have Ai:=I jQ;have RW7:=I (aF R6.o jQ);have RZ7:=I (aF RZ6.o jQ);have RL7:=I (aF RL6.o jQ);have G7:=I (G6.o.trans jQ);clear Dc jQ x1 x2 x3 x4 x5 x6 zX;go_wp2_with (first|(refine aQ rfl (.tmp 1) (.tmp 21) rfl rfl rfl RW7.o dN rfl rfl ?_))
   intro w8 r8 g8;have R8:=I r8;have RZ8:=I (bJ RZ7.o g8 iP);have RL8:=I (bJ RL7.o g8 (by intro e;have:=bI e;have:=Fv.o;omega));have OJ:=I (JR.o.mono (Zk (τ gD.o) Ai.o g8 V));have G8:=I (G7.o.grown g8 (fun q O=>by have:=bI O;omega));clear r8 g8;go_wp2;go_roundw
   case rel=>exact⟨r+1,_,V,by go_num,R8.o,by rw [<-gA.o];exact OJ.o,G8.o,RZ8.o,RL8.o⟩
   case measure=>simp [intOf];omega
  ·have HE:Hid (y=fQ x):=I (HEN.o V)
   have zr:w.heap.size+1<wr:=(γ cW.o);go_wp2_with (first|(refine aQ rfl (.tmp 2) (.tmp 23) rfl rfl rfl cW.o dN rfl rfl ?_))
   intro w7 r7 g7;obtain⟨p0,p1,p2,p3,p4,p5⟩:=bF r7;go_wp2;refine dw (v:=.agg #[U iC y.aN.bg.length iD,J y.aN.aW,J y.aN.next,U lY y.aN.bG.length lZ,U Nq y.aI.length IY,U OL y.bM.length OM]) (by simp [results,Tryz.results28,go_sem,p0,p1,p2,p3,p4,p5]) rfl ?_;rw [<-HE.o];exact⟨_,rfl,HX.o.mono (XO g7 V),HG.o.grown g7 (fun q O=>by have:=bI O;omega)⟩
theorem yg {v v':Value} {h h':Hs} (w:World) (hv:Of Ty.hs w.cell? v h) (hv':Of Ty.hs w.cell? v' h'):
  Calls Tryz.prog 25 #[v,v'] w fun e w'=>e=.returned (.bool (decide (h=h')))/\aK w w':=by
 obtain⟨al,cl,ar,cr,ad,cd,rfl⟩:=hv.ig;obtain⟨iC,iD,oD,oG,uS,uT,rfl⟩:=hv'.ig;have k:=Of.oC hv;have k':=Of.oC hv';have HSL:=I (fun(W:World) (hW:aK w W)=>tY W (k.1.mono hW.sub) (k'.1.mono hW.sub));have yD:=I (fun(W:World) (hW:aK w W)=>yc W (k.2.1.mono hW.sub) (k'.2.1.mono hW.sub));have Gv:=I (fun(W:World) (hW:aK w W)=>rD W (k.2.2.mono hW.sub) (k'.2.2.mono hW.sub));have kH:Hid (aK w ((w.alloc (.cells #[U al h.bg.length cl,J h.aP.a,J h.aP.b,J h.aP.c,J h.aP.d,U ar h.ready.length cr,U ad h.done.length cd] 50)).alloc (.cells #[U iC h'.bg.length iD,J h'.aP.a,J h'.aP.b,J h'.aP.c,J h'.aP.d,U oD h'.ready.length oG,U uS h'.done.length uT] 50))):=I (((aG w).alloc _).alloc _);clear hv hv' k k';by_cases hl:h.bg=h'.bg
 ·by_cases hs:h.aP=h'.aP
  ·by_cases hr:h.ready=h'.ready
   ·by_cases hd:h.done=h'.done
    ·have HE:Hid (decide (h=h')=true):=by show _=_;rw [decide_eq_true_eq];cases h;cases h';simp_all
     have DL:=I (decide_eq_true hl);have HQ:∀u:World,(binOp .eql 47 (.agg #[J h.aP.a,J h.aP.b,J h.aP.c,J h.aP.d]) (.agg #[J h'.aP.a,J h'.aP.b,J h'.aP.c,J h'.aP.d])).run Tryz.prog u=.ok (.bool true) u:=fun u=>by rw [wR,decide_eq_true hs]
     have hg:=oN;have DR:=I (decide_eq_true hr);have DD:=I (decide_eq_true hd);clear hl hs hr hd;go_enter Tryz.func25,Tryz.ntmps25;go_wp2_with fail
     refine(HSL.o _ kH.o).mono ?_;rw [DL.o];rintro e w1 ⟨rfl,dR⟩;(obtain⟨Gn,Hg⟩:=gu dR;have uw:w.heap.size<w1:=(ω dR.size);have Ad:w.heap.size+1<w1:=(ω dR.size);have pK:=I dR;clear dR)
     go_wp2_with fail
     refine(yD.o _ (kH.o.trans pK.o)).mono ?_;rw [DR.o];rintro e w2 ⟨rfl,iq⟩;(obtain⟨Ym,Yn⟩:=gu iq;have JJ:w.heap.size<w2:=(ω iq.size);have NR:w.heap.size+1<w2:=(ω iq.size);have Dn:=I iq;clear iq)
     go_wp2_with fail
     refine(Gv.o _ ((kH.o.trans pK.o).trans Dn.o)).mono ?_;rw [DD.o];rintro e w3 ⟨rfl,kZ⟩;(obtain⟨cw3,fw3⟩:=gu kZ;have X0:w.heap.size<w3:=(ω kZ.size);have X3:w.heap.size+1<w3:=(ω kZ.size);have X4:=I kZ;clear kZ)
     go_wp2;go_ret;exact⟨dA HE.o.symm,(((kH.o.trans pK.o).trans Dn.o).trans X4.o)⟩
    ·have HE:Hid (decide (h=h')=false):=by show _=_;rw [decide_eq_false_iff_not];rintro rfl;exact hd rfl
     have DL:=I (decide_eq_true hl);have HQ:∀u:World,(binOp .eql 47 (.agg #[J h.aP.a,J h.aP.b,J h.aP.c,J h.aP.d]) (.agg #[J h'.aP.a,J h'.aP.b,J h'.aP.c,J h'.aP.d])).run Tryz.prog u=.ok (.bool true) u:=fun u=>by rw [wR,decide_eq_true hs]
     have hg:=oN;have DR:=I (decide_eq_true hr);have DD:=I (decide_eq_false hd);clear hl hs hr hd;go_enter Tryz.func25,Tryz.ntmps25;go_wp2_with fail
     refine(HSL.o _ kH.o).mono ?_;rw [DL.o];rintro e w1 ⟨rfl,dR⟩;(obtain⟨Gn,Hg⟩:=gu dR;have uw:w.heap.size<w1:=(ω dR.size);have Ad:w.heap.size+1<w1:=(ω dR.size);have pK:=I dR;clear dR)
     go_wp2_with fail
     refine(yD.o _ (kH.o.trans pK.o)).mono ?_;rw [DR.o];rintro e w2 ⟨rfl,iq⟩;(obtain⟨Ym,Yn⟩:=gu iq;have JJ:w.heap.size<w2:=(ω iq.size);have NR:w.heap.size+1<w2:=(ω iq.size);have Dn:=I iq;clear iq)
     go_wp2_with fail
     refine(Gv.o _ ((kH.o.trans pK.o).trans Dn.o)).mono ?_;rw [DD.o];rintro e w3 ⟨rfl,kZ⟩;(obtain⟨cw3,fw3⟩:=gu kZ;have X0:w.heap.size<w3:=(ω kZ.size);have X3:w.heap.size+1<w3:=(ω kZ.size);have X4:=I kZ;clear kZ)
     go_wp2;go_ret;exact⟨dA HE.o.symm,(((kH.o.trans pK.o).trans Dn.o).trans X4.o)⟩
   ·have HE:Hid (decide (h=h')=false):=by show _=_;rw [decide_eq_false_iff_not];rintro rfl;exact hr rfl
    have DL:=I (decide_eq_true hl);have HQ:∀u:World,(binOp .eql 47 (.agg #[J h.aP.a,J h.aP.b,J h.aP.c,J h.aP.d]) (.agg #[J h'.aP.a,J h'.aP.b,J h'.aP.c,J h'.aP.d])).run Tryz.prog u=.ok (.bool true) u:=fun u=>by rw [wR,decide_eq_true hs]
    have hg:=oN;have DR:=I (decide_eq_false hr);clear hl hs hr;go_enter Tryz.func25,Tryz.ntmps25;go_wp2_with fail
    refine(HSL.o _ kH.o).mono ?_;rw [DL.o];rintro e w1 ⟨rfl,dR⟩;(obtain⟨Gn,Hg⟩:=gu dR;have uw:w.heap.size<w1:=(ω dR.size);have Ad:w.heap.size+1<w1:=(ω dR.size);have pK:=I dR;clear dR)
    go_wp2_with fail
    refine(yD.o _ (kH.o.trans pK.o)).mono ?_;rw [DR.o];rintro e w2 ⟨rfl,iq⟩;(obtain⟨Ym,Yn⟩:=gu iq;have JJ:w.heap.size<w2:=(ω iq.size);have NR:w.heap.size+1<w2:=(ω iq.size);have Dn:=I iq;clear iq)
    go_wp2;go_ret;exact⟨dA HE.o.symm,((kH.o.trans pK.o).trans Dn.o)⟩
  ·have HE:Hid (decide (h=h')=false):=by show _=_;rw [decide_eq_false_iff_not];rintro rfl;exact hs rfl
   have DL:=I (decide_eq_true hl);have HQ:∀u:World,(binOp .eql 47 (.agg #[J h.aP.a,J h.aP.b,J h.aP.c,J h.aP.d]) (.agg #[J h'.aP.a,J h'.aP.b,J h'.aP.c,J h'.aP.d])).run Tryz.prog u=.ok (.bool false) u:=fun u=>by rw [wR,decide_eq_false hs]
   have hg:=oN;clear hl hs;go_enter Tryz.func25,Tryz.ntmps25;go_wp2_with fail
   refine(HSL.o _ kH.o).mono ?_;rw [DL.o];rintro e w1 ⟨rfl,dR⟩;(obtain⟨Gn,Hg⟩:=gu dR;have uw:w.heap.size<w1:=(ω dR.size);have Ad:w.heap.size+1<w1:=(ω dR.size);have pK:=I dR;clear dR)
   go_wp2;go_ret;exact⟨dA HE.o.symm,(kH.o.trans pK.o)⟩
 ·have HE:Hid (decide (h=h')=false):=by show _=_;rw [decide_eq_false_iff_not];rintro rfl;exact hl rfl
  have DL:=I (decide_eq_false hl);clear hl;go_enter Tryz.func25,Tryz.ntmps25;go_wp2_with fail
  refine(HSL.o _ kH.o).mono ?_;rw [DL.o];rintro e w1 ⟨rfl,dR⟩;(obtain⟨Gn,Hg⟩:=gu dR;have uw:w.heap.size<w1:=(ω dR.size);have Ad:w.heap.size+1<w1:=(ω dR.size);have pK:=I dR;clear dR)
  go_wp2;go_ret;exact⟨dA HE.o.symm,(kH.o.trans pK.o)⟩
theorem lT {v v':Value} {x:AW} (w:World) (hv:Of Ty.wd w.cell? v x) (hv':Of Ty.wd w.cell? v' x) (h3:x.aI.length<=3):
  Calls Tryz.prog 13 #[v,v'] w fun e w'=>e=.returned (.bool true)/\aK w w':=by
 obtain⟨al,cl,ao,co,ah,ch,an,cn,rfl⟩:=hv.dJ;obtain⟨iC,iD,lY,lZ,Nq,IY,OL,OM,rfl⟩:=hv'.dJ;obtain⟨q1,q2,q3⟩:=hv.ji;obtain⟨u1,u2,u3⟩:=hv'.ji;have HSH:=I (fun(W:World) (hW:aK w W)=>Ac W (q1.mono hW.sub) (u1.mono hW.sub));have KM:=I (fun(W:World) (hW:aK w W)=>Cb W (q3.mono hW.sub) (u3.mono hW.sub));obtain⟨AN,ch',he,N,Y,-,hel⟩:=q2;obtain⟨rfl,rfl⟩:ah=AN/\ch=ch':=by simpa using he
 obtain⟨Vo,ch3,he',h1',h2',-,iH⟩:=u2;obtain⟨rfl,rfl⟩:Nq=Vo/\IY=ch3:=by simpa using he'
 unfold maxLen at Y h2';clear hv hv' q1 q3 u1 u3 he he';have nH:=I hel;have A0P:=I iH;clear hel iH;obtain⟨wa,fZ⟩:=χ (w.alloc (.cells #[U al x.aN.bg.length cl,J x.aN.aW,J x.aN.next,U ao x.aN.bG.length co,U ah x.aI.length ch,U an x.bM.length cn] 33));obtain⟨wz,hwz⟩:=χ (wa.alloc (.cells #[U iC x.aN.bg.length iD,J x.aN.aW,J x.aN.next,U lY x.aN.bG.length lZ,U Nq x.aI.length IY,U OL x.bM.length OM] 33));have hsz:wa.heap.size=w.heap.size+1:=by rw [fZ];simp
 have R1:Hid (wz.heap[w.heap.size]? =some (.cells #[U al x.aN.bg.length cl,J x.aN.aW,J x.aN.next,U ao x.aN.bG.length co,U ah x.aI.length ch,U an x.bM.length cn] 33 (0,0))):=I (by rw [hwz,fZ];exact bQ (bn _ _) _);have R2:Hid (wz.heap[w.heap.size+1]? =some (.cells #[U iC x.aN.bg.length iD,J x.aN.aW,J x.aN.next,U lY x.aN.bG.length lZ,U Nq x.aI.length IY,U OL x.bM.length OM] 33 (0,0))):=I (by rw [hwz,<-hsz];exact bn _ _);have G1:Hid (aK w wz):=I (by rw [hwz,fZ];exact((aG w).alloc _).alloc _);go_enter Tryz.func13,Tryz.ntmps13;go_upto_region 1 with fail
 rw [<-fZ];try rw [hsz]
 rw [<-hwz];clear fZ hwz hsz;obtain⟨x1,x2,x3,x4,x5,x6⟩:=bF R1.o;obtain⟨y1,y2,y3,y4,y5,y6⟩:=bF R2.o;have zX:w.heap.size+1<wz:=(γ R2.o);have DH:Hid (decide (x.aN=x.aN)=true):=I σ;have DN:Hid (decide (x.bM.map dh=x.bM.map dh)=true):=I σ;go_wp2_with fail
 refine(HSH.o _ G1.o).mono ?_;rw [DH.o];rintro e w1 ⟨rfl,dZ⟩;have R11:=I (aF R1.o dZ);have SN:=I (aF R2.o dZ);have G2:=I (G1.o.trans dZ);clear x1 x2 x3 x4 x5 x6 y1 y2 y3 y4 y5 y6 zX dZ;obtain⟨x1,x2,x3,x4,x5,x6⟩:=bF R11.o;obtain⟨y1,y2,y3,y4,y5,y6⟩:=bF SN.o;have zX:w.heap.size+1<w1:=(γ SN.o);go_wp2_with fail
 refine(KM.o _ G2.o).mono ?_;rw [DN.o];rintro e w2 ⟨rfl,gB⟩;have Qa:=I (aF R11.o gB);have Gu:=I (aF SN.o gB);have G3:=I (G2.o.trans gB);clear x1 x2 x3 x4 x5 x6 y1 y2 y3 y4 y5 y6 zX gB;obtain⟨x1,x2,x3,x4,x5,x6⟩:=bF Qa.o;obtain⟨y1,y2,y3,y4,y5,y6⟩:=bF Gu.o;have zX:w.heap.size+1<w2:=(γ Gu.o);have tl:((x.aI.length:Int) !=(x.aI.length:Int))=false:=by simp
 go_wp2;clear x1 x2 x3 x4 x5 x6 y1 y2 y3 y4 y5 y6 zX;go_loopw [32] (fun i wr=>∃k:Nat,k<=x.aI.length/\i=J k/\aK w2 wr) (fun i _=>x.aI.length - (intOf i).toNat)
 case atStart=>exact⟨0,V,rfl,aG _⟩
 case round=>
  obtain⟨k,hk',rfl,hgr⟩:=hrel;have Fj:=I hgr;have GR:=I (G3.o.trans hgr);clear hgr;by_cases hlt:k<x.aI.length
  ·obtain⟨b,o,vl,vr,vd,rfl,e0,e1,e2,e3,e4,e5,e6,yu,i1,i2,i3,i4,Ar,xk⟩:=VW.at_ nH.o k hlt
   obtain⟨b2,o2,vl2,vr2,vd2,rfl,f0,f1,f2,f3,f4,f5,f6,kH1,-,-,-,-,kH2,kH3⟩:=VW.at_ A0P.o k hlt;obtain⟨KV,K0,rfl,-⟩:=id yu;obtain⟨K4,K5,rfl,-⟩:=id Ar;obtain⟨id1,K6,rfl,-⟩:=id xk;obtain⟨RU,RV,rfl,-⟩:=id kH1;obtain⟨R_,Si,rfl,-⟩:=id kH2;obtain⟨id2,Sj,rfl,-⟩:=id kH3;have HSE:=I (fun(W:World) (hW:aK w W)=>yg W (v:=.agg #[.slice KV x.aI[k].bg.length K0,J x.aI[k].aP.a,J x.aI[k].aP.b,J x.aI[k].aP.c,J x.aI[k].aP.d,.slice K4 x.aI[k].ready.length K5,.slice id1 x.aI[k].done.length K6]) (v':=.agg #[.slice RU x.aI[k].bg.length RV,J x.aI[k].aP.a,J x.aI[k].aP.b,J x.aI[k].aP.c,J x.aI[k].aP.d,.slice R_ x.aI[k].ready.length Si,.slice id2 x.aI[k].done.length Sj]) (h:=x.aI[k]) (h':=x.aI[k]) ((show Of Ty.hs w.cell? (.agg #[.slice KV x.aI[k].bg.length K0,J x.aI[k].aP.a,J x.aI[k].aP.b,J x.aI[k].aP.c,J x.aI[k].aP.d,.slice K4 x.aI[k].ready.length K5,.slice id1 x.aI[k].done.length K6]) x.aI[k] from⟨_,rfl,_,_,_,rfl,yu,i1,i2,i3,i4,Ar,xk⟩).mono hW.sub) ((show Of Ty.hs w.cell? (.agg #[.slice RU x.aI[k].bg.length RV,J x.aI[k].aP.a,J x.aI[k].aP.b,J x.aI[k].aP.c,J x.aI[k].aP.d,.slice R_ x.aI[k].ready.length Si,.slice id2 x.aI[k].done.length Sj]) x.aI[k] from⟨_,rfl,_,_,_,rfl,kH1,i1,i2,i3,i4,kH2,kH3⟩).mono hW.sub));have DE:Hid (decide (x.aI[k]=x.aI[k])=true):=I σ;clear yu Ar xk kH1 kH2 kH3 i1 i2 i3 i4;generalize x.aI[k]=h at*;have HE:=I (And.intro e0 (And.intro e1 (And.intro e2 (And.intro e3 (And.intro e4 (And.intro e5 e6))))));have HF:=I (And.intro f0 (And.intro f1 (And.intro f2 (And.intro f3 (And.intro f4 (And.intro f5 f6))))));clear e0 e1 e2 e3 e4 e5 e6 f0 f1 f2 f3 f4 f5 f6;go_upto_region 6 with fail
   have HS:Hid (∀W,aK wr W->W.cell? ⟨w,4,none⟩=some (U (some ⟨b,o,none⟩) x.aI.length ch)/\W.cell? ⟨w+1,4,none⟩=some (U (some ⟨b2,o2,none⟩) x.aI.length IY)/\W.cell? ⟨b,o+k*7,none⟩=some (U KV h.bg.length K0)/\W.cell? ⟨b,o+k*7+1,none⟩=some (J h.aP.a)/\W.cell? ⟨b,o+k*7+2,none⟩=some (J h.aP.b)/\W.cell? ⟨b,o+k*7+3,none⟩=some (J h.aP.c)/\W.cell? ⟨b,o+k*7+4,none⟩=some (J h.aP.d)/\W.cell? ⟨b,o+k*7+5,none⟩=some (U K4 h.ready.length K5)/\W.cell? ⟨b,o+k*7+6,none⟩=some (U id1 h.done.length K6)/\W.cell? ⟨b2,o2+k*7,none⟩=some (U RU h.bg.length RV)/\W.cell? ⟨b2,o2+k*7+1,none⟩=some (J h.aP.a)/\W.cell? ⟨b2,o2+k*7+2,none⟩=some (J h.aP.b)/\W.cell? ⟨b2,o2+k*7+3,none⟩=some (J h.aP.c)/\W.cell? ⟨b2,o2+k*7+4,none⟩=some (J h.aP.d)/\W.cell? ⟨b2,o2+k*7+5,none⟩=some (U R_ h.ready.length Si)/\W.cell? ⟨b2,o2+k*7+6,none⟩=some (U id2 h.done.length Sj)):=fun W hW=>by
    have hs:=(GR.o.trans hW).sub;obtain⟨e0,e1,e2,e3,e4,e5,e6⟩:=HE.o;obtain⟨f0,f1,f2,f3,f4,f5,f6⟩:=HF.o;obtain⟨-,-,-,-,x5,-⟩:=bF (aF Qa.o (Fj.o.trans hW));obtain⟨-,-,-,-,y5,-⟩:=bF (aF Gu.o (Fj.o.trans hW));exact⟨x5,y5,hs _ _ e0,hs _ _ e1,hs _ _ e2,hs _ _ e3,hs _ _ e4,hs _ _ e5,hs _ _ e6,hs _ _ f0,hs _ _ f1,hs _ _ f2,hs _ _ f3,hs _ _ f4,hs _ _ f5,hs _ _ f6⟩
   refine Gq (fun w'=>w'.cell? ⟨w,4,none⟩=some (U (some ⟨b,o,none⟩) x.aI.length ch)/\w'.cell? ⟨w+1,4,none⟩=some (U (some ⟨b2,o2,none⟩) x.aI.length IY)/\w'.cell? ⟨b,o+k*7,none⟩=some (U KV h.bg.length K0)/\w'.cell? ⟨b,o+k*7+1,none⟩=some (J h.aP.a)/\w'.cell? ⟨b,o+k*7+2,none⟩=some (J h.aP.b)/\w'.cell? ⟨b,o+k*7+3,none⟩=some (J h.aP.c)/\w'.cell? ⟨b,o+k*7+4,none⟩=some (J h.aP.d)/\w'.cell? ⟨b,o+k*7+5,none⟩=some (U K4 h.ready.length K5)/\w'.cell? ⟨b,o+k*7+6,none⟩=some (U id1 h.done.length K6)/\w'.cell? ⟨b2,o2+k*7,none⟩=some (U RU h.bg.length RV)/\w'.cell? ⟨b2,o2+k*7+1,none⟩=some (J h.aP.a)/\w'.cell? ⟨b2,o2+k*7+2,none⟩=some (J h.aP.b)/\w'.cell? ⟨b2,o2+k*7+3,none⟩=some (J h.aP.c)/\w'.cell? ⟨b2,o2+k*7+4,none⟩=some (J h.aP.d)/\w'.cell? ⟨b2,o2+k*7+5,none⟩=some (U R_ h.ready.length Si)/\w'.cell? ⟨b2,o2+k*7+6,none⟩=some (U id2 h.done.length Sj)) [] κ ?_;intro wd GD zD;clear zD;refine pF [0,1,2,3,4,5,6,7,8,9] 14 κ (fun _ _ _ _ _ h=>h) (HS.o _ GD) ?_;repeat (refine jm ?_;try simp only [bT])
   refine pG ?_;refine kS 10 κ rfl ?_;intro K M;try simp only [dD]
   go_simp;go_at_call 25
   refine(HSE.o _ (GR.o.trans GD)).mono ?_;rw [DE.o];rintro e w5 ⟨rfl,iY⟩;have G5:=I (aK.trans GD iY);clear iY;refine ψ M (.inr (HS.o _ G5.o)) ?_;try simp only [bT]
   refine pF [11] 14 κ (fun _ _ _ _ _ h=>h) (HS.o _ G5.o) ?_;repeat (refine jm ?_;try simp only [bT])
   refine pG ?_;refine Bf κ ?_;go_wp2;go_roundw
   case rel=>exact⟨k+1,V,by go_num,Fj.o.trans G5.o⟩
   case measure=>simp [intOf];omega
  ·obtain rfl:k=x.aI.length:=by omega
   go_wp2;go_ret;exact⟨rfl,GR.o⟩
theorem xL {n:Int} (w:World) (hn:¬(1<=n/\n<=3)):
  Calls Tryz.prog 12 #[J n] w fun e w'=>e=.returned (.tuple #[.agg #[(),J 0,J 0,(),(),()],J 3])/\aK w w':=by
 have t:(decide (n<1)=true∨(decide (n<1)=false/\decide (3<n)=true)):=by
  by_cases h:n<1
  ·left;simp [h]
  ·right;simp;omega
 obtain⟨wz,hwz⟩:=χ (w.alloc (.cells #[(),J 0,J 0,(),(),()] 33));have R2:Hid (wz.heap[w.heap.size]? =some (.cells #[(),J 0,J 0,(),(),()] 33 (0,0))):=I (by rw [hwz];exact bn _ _);have G1:Hid (aK w wz):=I (by rw [hwz];exact(aG w).alloc _);clear hn;go_enter Tryz.func12,Tryz.ntmps12;go_upto_region 1 with fail
 rw [<-hwz];clear hwz;rcases t with t|⟨t1,t2⟩
 all_goals
  go_wp2_with (first|(refine aQ rfl (.tmp 2) (.tmp 10) rfl rfl rfl R2.o dN rfl rfl ?_))
  intro wf rf gf;obtain⟨p0,p1,p2,p3,p4,p5⟩:=bF rf;go_wp2;refine dw (v:=.tuple #[.agg #[(),J 0,J 0,(),(),()],J 3]) (by simp [results,Tryz.results12,go_sem,p0,p1,p2,p3,p4,p5]) rfl ?_;exact⟨rfl,G1.o.grown gf (fun q O=>by have:=bI O;omega)⟩
theorem Zl {B:Nat} {w w':World} (g:w.grownBy w' (some B)):Sub (wo B w.cell?) (wo B w'.cell?):=fun a u e=>by
 rw [Zj (PN e)];exact K9 g _ _ e
theorem NS {n0:Int} {v:Value} {l:List St} (w:World) (_hn:I64 n0) (hv:Sl Ty.st w.cell? v l) (_hs:l.length*40<=140737488351232):
  Calls Tryz.prog 7 #[J n0,v] w fun e w'=>e=.returned (.bool true)/\aK w w':=by
 obtain⟨av,cv,rfl,-⟩:=id hv;by_cases hin:1<=n0/\n0<=3;rotate_left
 ·have yF:=I hin
  clear hv hin;go_enter Tryz.func7,Tryz.ntmps7;go_wp2_with fail
  refine(X9 w yF.o).mono ?_;rintro e w1 ⟨rfl,dZ⟩;have G1:=I dZ;clear dZ;obtain⟨w2,hwq⟩:=χ (w1.alloc (.cells #[(),J 0,J 0,(),(),()] 33));obtain⟨B5,lq⟩:=χ w1.heap.size;have zW:Hid (aK w1 w2):=I (by rw [hwq];exact(aG _).alloc _);have R5:Hid (w2.heap[B5]? =some (.cells #[(),J 0,J 0,(),(),()] 33 (0,0))):=I (by rw [hwq,lq];exact bn _ _);go_upto_region 2 with fail
  rw [<-hwq,<-lq];clear hwq lq;go_wp2_with fail
  refine(xL w2 yF.o).mono ?_;rintro e w3 ⟨rfl,fB⟩;have R53:=I (aF R5.o fB);have G3:=I (G1.o.trans (zW.o.trans fB));clear fB;go_upto_region 3 with fail
  obtain⟨w4,hwq⟩:=χ (w3.alloc (.cells #[(),J 0,J 0,(),(),()] 33));obtain⟨B8,lq⟩:=χ w3.heap.size;have xM:Hid (aK w3 w4):=I (by rw [hwq];exact(aG _).alloc _);rw [<-hwq,<-lq];clear hwq lq;obtain⟨a0,a1,a2,a3,a4,a5⟩:=bF (aF R53.o xM.o);have za:B5<w4.heap.size:=(Array.getElem?_eq_some_iff.1 (aF R53.o xM.o)).1;go_wp2;go_ret;exact⟨rfl,G3.o.trans xM.o⟩
 obtain⟨n,rfl⟩:∃n:Nat,n0=(n:Int):=⟨n0.toNat,V⟩;have hn:1<=n/\n<=3:=by omega
 clear hin;by_cases hm:150<l.length
 ·have t9:decide ((150:Int)<(l.length:Int))=true:=by simp;omega
  have t8:decide (150<l.length)=true:=decide_eq_true hm;have HPM:=I (X_ (a:=av) (cap:=cv) w hn hm);have HNR:=I (fun(W:World)=>MV W hn);clear hv hn hm;go_enter Tryz.func7,Tryz.ntmps7;go_wp2_with fail
  refine HPM.o.mono ?_;rintro e w1 ⟨rfl,dZ⟩;have G1:=I dZ;clear dZ;obtain⟨w2,hwq⟩:=χ (w1.alloc (.cells #[(),J 0,J 0,(),(),()] 33));obtain⟨B5,lq⟩:=χ w1.heap.size;have zW:Hid (aK w1 w2):=I (by rw [hwq];exact(aG _).alloc _);have R5:Hid (w2.heap[B5]? =some (.cells #[(),J 0,J 0,(),(),()] 33 (0,0))):=I (by rw [hwq,lq];exact bn _ _);go_upto_region 2 with fail
  rw [<-hwq,<-lq];clear hwq lq;go_wp2_with fail
  refine(HNR.o w2).mono ?_;rintro e w3 ⟨v3,rfl,FY,fB⟩;obtain⟨Dh,Di,Kr,co3,Vo,ch3,JU,cn3,rfl⟩:=FY.dJ;have R53:=I (aF R5.o fB);have G3:=I (G1.o.trans (zW.o.trans fB));clear FY fB HNR;generalize gK n=x0 at*;go_upto_region 3 with fail
  obtain⟨w4,hwq⟩:=χ (w3.alloc (.cells #[U Dh x0.aN.bg.length Di,J x0.aN.aW,J x0.aN.next,U Kr x0.aN.bG.length co3,U Vo x0.aI.length ch3,U JU x0.bM.length cn3] 33));obtain⟨B8,lq⟩:=χ w3.heap.size;have xM:Hid (aK w3 w4):=I (by rw [hwq];exact(aG _).alloc _);rw [<-hwq,<-lq];clear hwq lq;obtain⟨a0,a1,a2,a3,a4,a5⟩:=bF (aF R53.o xM.o);have za:B5<w4.heap.size:=(Array.getElem?_eq_some_iff.1 (aF R53.o xM.o)).1;go_wp2;go_ret;exact⟨rfl,G3.o.trans xM.o⟩
 have Vm:l.length<=150:=by omega
 have hlt:l.take 150=l:=eG Vm;have t9:decide ((150:Int)<(l.length:Int))=false:=by simp;omega
 have t8:decide (150<l.length)=false:=decide_eq_false hm;have hwk:=(WK.play hn l V).up (k':=150) Vm ε;have A3:=I (yP w hn hv Vm);have HNR:=I (fun(W:World)=>MV W hn);have pU:=I (fun(W:World) (hW:aK w W)=>BJ (l:=l) W hn (hv.mono hW.sub));rw [hlt] at pU;have Dj:=I hwk.I5.2;have Yf:=I (hwk.round ε);have HSX:=I ((hwk.settle ε).up (k':=33150) ε ε);have yw:=I hwk;have HYN:Hid (∃y m,fD (d_ (gK n) l)=(y,m)/\gq 30 (d_ (gK n) l)=(y,m)):=I ⟨_,_,rfl,rfl⟩;clear hv hn hm Vm hlt hwk;generalize jK (gK n) l=E at*;generalize d_ (gK n) l=x at*;go_enter Tryz.func7,Tryz.ntmps7;go_wp2_with fail
 refine A3.o.mono ?_;rintro e w1 ⟨v1,ve,rfl,Gs,he1,dZ⟩;obtain⟨al1,cl1,ao1,co1,ah1,ch1,an1,cn1,rfl⟩:=Gs.dJ;obtain⟨ae,ce,rfl,ec1,ec2,-,A2k⟩:=he1;unfold maxLen at ec2;have MK:=I A2k;have Kq:=I (Gs.mono (fG _ _));have G1:=I dZ;clear Gs dZ A3 A2k;obtain⟨w2,hwq⟩:=χ (w1.alloc (.cells #[U al1 x.aN.bg.length cl1,J x.aN.aW,J x.aN.next,U ao1 x.aN.bG.length co1,U ah1 x.aI.length ch1,U an1 x.bM.length cn1] 33));obtain⟨B5,lq⟩:=χ w1.heap.size;have zW:Hid (aK w1 w2):=I (by rw [hwq];exact(aG _).alloc _);have R5:Hid (w2.heap[B5]? =some (.cells #[U al1 x.aN.bg.length cl1,J x.aN.aW,J x.aN.next,U ao1 x.aN.bG.length co1,U ah1 x.aI.length ch1,U an1 x.bM.length cn1] 33 (0,0))):=I (by rw [hwq,lq];exact bn _ _);go_upto_region 2 with fail
 rw [<-hwq,<-lq];clear hwq lq;go_wp2_with fail
 refine(HNR.o w2).mono ?_;rintro e w3 ⟨v3,rfl,FY,fB⟩;obtain⟨Dh,Di,Kr,co3,Vo,ch3,JU,cn3,rfl⟩:=FY.dJ;have AU:=I fB;clear FY fB HNR;generalize gK n=x0 at*;go_upto_region 3 with fail
 obtain⟨w4,hwq⟩:=χ (w3.alloc (.cells #[U Dh x0.aN.bg.length Di,J x0.aN.aW,J x0.aN.next,U Kr x0.aN.bG.length co3,U Vo x0.aI.length ch3,U JU x0.bM.length cn3] 33));obtain⟨B8,lq⟩:=χ w3.heap.size;have xM:Hid (aK w3 w4):=I (by rw [hwq];exact(aG _).alloc _);rw [<-hwq,<-lq];clear hwq lq;have G24:=I (AU.o.trans xM.o);have fW:=I (zW.o.trans G24.o);have R54:=I (aF R5.o G24.o);go_wp2_with fail
 refine(pU.o w4 (G1.o.trans fW.o)).mono ?_;rintro e w5 ⟨v5,vf,rfl,Nj,hf5,iY⟩;obtain⟨al,cl,ao,co,ah,ch,an,cn,rfl⟩:=Nj.dJ;obtain⟨af,cf,rfl,fc1,fc2,-,A2l⟩:=hf5;have HE5:=I A2l;have F5:=I Nj;have Oe:=I iY;have G15:Hid (aK w w5):=I (G1.o.trans (fW.o.trans iY));clear Nj iY pU A2l t9 t8;obtain⟨w6,hwq⟩:=χ (w5.alloc (.cells #[U al x.aN.bg.length cl,J x.aN.aW,J x.aN.next,U ao x.aN.bG.length co,U ah x.aI.length ch,U an x.bM.length cn] 33));obtain⟨Gx,lq⟩:=χ w5.heap.size;have tK:Hid (aK w5 w6):=I (by rw [hwq];exact(aG _).alloc _);have R10:Hid (w6.heap[Gx]? =some (.cells #[U al x.aN.bg.length cl,J x.aN.aW,J x.aN.next,U ao x.aN.bG.length co,U ah x.aI.length ch,U an x.bM.length cn] 33 (0,0))):=I (by rw [hwq,lq];exact bn _ _);have A0w:Hid (Gx=w5.heap.size):=I lq;go_upto_region 8 with fail
 rw [<-hwq,<-lq];clear hwq lq;have G46:=I (Oe.o.trans tK.o);have G16:=I (fW.o.trans G46.o);have R56:=I (aF R54.o G46.o);have HA6:=I (Kq.o.mono G16.o.sub);have Gw:=I (F5.o.mono tK.o.sub);have hee:((E.length:Int) !=(E.length:Int))=false:=by simp
 obtain⟨a0,a1,a2,a3,a4,a5⟩:=bF R56.o;have za:B5<w6.heap.size:=(γ R56.o);obtain⟨b0,b1,b2,b3,b4,b5⟩:=bF R10.o;have zb:Gx<w6.heap.size:=(γ R10.o);go_wp2_with fail
 refine(lT w6 HA6.o Gw.o Dj.o).mono ?_;rintro e w7 ⟨rfl,jQ⟩;have G67:=I jQ;clear jQ a0 a1 a2 a3 a4 a5 za b0 b1 b2 b3 b4 b5 zb HA6 Kq;go_wp2;go_loopw [72] (fun i wr=>∃k:Nat,k<=E.length/\i=J k/\aK w7 wr) (fun i _=>E.length - (intOf i).toNat)
 case atStart=>exact⟨0,V,rfl,aG _⟩
 case round=>
  obtain⟨k,hk',rfl,hgr⟩:=hrel;have HG:=I hgr;clear hgr;by_cases hlt:k<E.length
  ·obtain⟨bd,od,rfl,c0,-⟩:=xu MK.o k hlt
   obtain⟨bf,of,rfl,d0,-⟩:=xu HE5.o k hlt;replace c0:=(G16.o.trans (G67.o.trans HG.o)).sub _ _ (fG _ _ _ _ c0);replace d0:=(tK.o.trans (G67.o.trans HG.o)).sub _ _ d0;generalize E[k]=z at*;have hzz:(z !=z)=false:=by simp
   go_wp2_with (go_quiet (fail))
   go_roundw
   case rel=>exact⟨k+1,V,by go_num,by have hG:=HG.o;exact je⟩
   case measure=>simp [intOf];omega
  ·obtain⟨w8,rfl⟩:=χ wr
   have G58:=I (tK.o.trans (G67.o.trans HG.o));have G68:=I (G67.o.trans HG.o);have A2m:=I (aF R10.o G68.o);have OJ:=I (F5.o.mono G58.o.sub);have HS:Hid (∀W,aK w8 W->W.cell? ⟨Gx,0,none⟩=some (U al x.aN.bg.length cl)/\W.cell? ⟨Gx,1,none⟩=some (J x.aN.aW)/\W.cell? ⟨Gx,2,none⟩=some (J x.aN.next)/\W.cell? ⟨Gx,3,none⟩=some (U ao x.aN.bG.length co)/\W.cell? ⟨Gx,4,none⟩=some (U ah x.aI.length ch)/\W.cell? ⟨Gx,5,none⟩=some (U an x.bM.length cn)):=fun W hW=>by
    obtain⟨a0,a1,a2,a3,a4,a5⟩:=bF (aF A2m.o hW);exact⟨a0,a1,a2,a3,a4,a5⟩
   obtain⟨ib,hib⟩:=χ (idleA x);have hbb:(ib !=ib)=false:=by cases ib<;>rfl
   have rG:=I hib;clear hib;go_upto_region 16 with fail
   clear hlt hk' hee ec1 ec2 fc1 fc2;refine Gq (fun w'=>w'.cell? ⟨Gx,0,none⟩=some (U al x.aN.bg.length cl)/\w'.cell? ⟨Gx,1,none⟩=some (J x.aN.aW)/\w'.cell? ⟨Gx,2,none⟩=some (J x.aN.next)/\w'.cell? ⟨Gx,3,none⟩=some (U ao x.aN.bG.length co)/\w'.cell? ⟨Gx,4,none⟩=some (U ah x.aI.length ch)/\w'.cell? ⟨Gx,5,none⟩=some (U an x.bM.length cn)) [] κ ?_;intro wd GD zD;clear zD;refine pF [0,2] 15 κ (fun _ _ _ _ _ h=>h) (HS.o _ GD) ?_;repeat (refine jm ?_;try simp only [bT])
   refine pG ?_;refine kS 1 κ rfl ?_;intro K M;try simp only [dD]
   go_simp;go_at_call 27
   refine(ql _ (OJ.o.mono (aK.sub GD)) yw.o ε).mono ?_;rintro eA wA ⟨vA,rfl,hxA,hbA⟩;obtain⟨alA,clA,aoA,coA,ahA,chA,anA,cnA,rfl⟩:=hxA.dJ;have HXA:=I (hxA.mono (fG _ _));have GA:=I (aK.trans GD hbA);clear hxA hbA;refine ψ M (.inr (HS.o _ GA.o)) ?_;try simp only [bT]
   refine kS 3 κ rfl ?_;intro K M;try simp only [dD]
   go_simp;go_at_call 28
   refine(Qk (c:=World.cell? wA) _ (Sub.refl _) (OJ.o.mono (aK.sub GA.o)) yw.o ε).mono ?_;rintro eB wB ⟨vB,rfl,hxB,hbB⟩;obtain⟨alB,clB,aoB,coB,ahB,chB,anB,cnB,rfl⟩:=hxB.dJ;have HXB:=I (hxB.mono (xR (Sub.refl _) hbB));have A3p:=I (HXA.o.mono (aK.sub hbB));have GB:=I (aK.trans GA.o hbB);clear hxB hbB;refine ψ M (.inr (HS.o _ GB.o)) ?_;try simp only [bT]
   refine kS 4 κ rfl ?_;intro K M;try simp only [dD]
   go_simp;go_at_call 13
   refine(lT _ A3p.o HXB.o Yf.o.I5.2).mono ?_;rintro eC wC ⟨rfl,hbC⟩;have GC:=I (aK.trans GB.o hbC);clear hbC;refine ψ M (.inr (HS.o _ GC.o)) ?_;try simp only [bT]
   refine pF [5,6,7,9] 15 κ (fun _ _ _ _ _ h=>h) (HS.o _ GC.o) ?_;repeat (refine jm ?_;try simp only [bT])
   refine pG ?_;refine kS 8 κ rfl ?_;intro K M;refine qc ρ ?_;try simp only [dD]
   go_simp;go_at_call 29
   refine(mQ _ (OJ.o.mono (aK.sub GC.o)) yw.o).mono ?_;rw [<-rG.o];rintro eD wD ⟨rfl,hbD⟩;have GD2:=I (aK.trans GC.o hbD);clear hbD;refine ψ M (.inr (HS.o _ GD2.o)) ?_;try simp only [bT]
   refine kS 10 κ rfl ?_;intro K M;refine qc ρ ?_;try simp only [dD]
   go_simp;go_at_call 30
   refine(VT _ (OJ.o.mono (aK.sub GD2.o)) yw.o).mono ?_;rw [<-rG.o];rintro eE wE ⟨rfl,hbE⟩;have GE:=I (aK.trans GD2.o hbE);clear hbE;refine ψ M (.inr (HS.o _ GE.o)) ?_;try simp only [bT]
   refine pF [11,12] 15 κ (fun _ _ _ _ _ h=>h) (HS.o _ GE.o) ?_;repeat (refine jm ?_;try simp only [bT])
   refine pG ?_;refine Bf κ ?_;clear HS hbb;have xN:=I (aF A2m.o GE.o);have HXE:=I (OJ.o.mono GE.o.sub);obtain⟨y,m,hy1,hy2⟩:=HYN.o;have HST:=kP wE HXE.o yw.o ε;rw [hy1] at HSX HST;have HST:=I HST;have HY2:=I hy2;clear hy1 hy2;obtain⟨a0,a1,a2,a3,a4,a5⟩:=bF xN.o;have za:Gx<wE.heap.size:=(γ xN.o);go_wp2_with fail
   refine HST.o.mono ?_;rintro e w9 ⟨v9,rfl,pT,iE⟩;obtain⟨p9,p_,qD,qS,qT,q_,an9,cn9,rfl⟩:=pT.dJ;have A3q:=I pT;have GE9:=I iE;clear pT iE HST a0 a1 a2 a3 a4 a5 za;obtain⟨wF,hwq⟩:=χ (w9.alloc (.cells #[U p9 y.aN.bg.length p_,J y.aN.aW,J y.aN.next,U qD y.aN.bG.length qS,U qT y.aI.length q_,U an9 y.bM.length cn9] 33));obtain⟨B13,lq⟩:=χ w9.heap.size;have G9F:Hid (aK w9 wF):=I (by rw [hwq];exact(aG _).alloc _);have FJ:Hid (wF.heap[B13]? =some (.cells #[U p9 y.aN.bg.length p_,J y.aN.aW,J y.aN.next,U qD y.aN.bG.length qS,U qT y.aI.length q_,U an9 y.bM.length cn9] 33 (0,0))):=I (by rw [hwq,lq];exact bn _ _);have pz:Hid (B13=w9.heap.size):=I lq;go_upto_region 19 with fail
   rw [<-hwq,<-lq];clear hwq lq;have GEF:=I (GE9.o.trans G9F.o);have A3r:=I (aF xN.o GEF.o);have G5F:=I (G58.o.trans (GE.o.trans GEF.o));have rE:Hid (Gx≠B13/\w5.heap.size<=Gx):=I (by have N:=A0w.o;have Y:=pz.o;have h3:=(γ xN.o);have h4:=GE9.o.size;omega);have HXF:=I (F5.o.mono (A0W G5F.o rE.o.2));have HYF:Hid (Of Ty.wd (wo Gx wF.cell?) (.agg #[U p9 y.aN.bg.length p_,J y.aN.aW,J y.aN.next,U qD y.aN.bG.length qS,U qT y.aI.length q_,U an9 y.bM.length cn9]) y):=I (A3q.o.mono fun a9 u9 e9=>by
    unfold ov at e9;split at e9
    ·cases e9
    ·have h3:=(γ xN.o)
     rw [Zj V];exact G9F.o.sub _ _ e9)
   go_wp2;go_loopw [15] (fun s15 wr=>∃(j:Nat) (z:AW) (row:Array Value),j<=30/\s15=J j/\wr.heap[Gx]? =some (.cells row 33 (0,0))/\Of Ty.wd (wo Gx wr.cell?) (.agg row) z/\WK (150+j*1100) z/\(y,m)=((gq (30 - j) z).1,(gq (30 - j) z).2+j)/\wr.heap[B13]? =some (.cells #[U p9 y.aN.bg.length p_,J y.aN.aW,J y.aN.next,U qD y.aN.bG.length qS,U qT y.aI.length q_,U an9 y.bM.length cn9] 33 (0,0))/\Of Ty.wd (wo Gx wr.cell?) (.agg #[U p9 y.aN.bg.length p_,J y.aN.aW,J y.aN.next,U qD y.aN.bG.length qS,U qT y.aI.length q_,U an9 y.bM.length cn9]) y/\aK w5 wr) (fun s15 _=>30 - (intOf s15).toNat)
   case atStart=>exact⟨0,x,_,V,rfl,A3r.o,HXF.o,yw.o,HY2.o.symm,FJ.o,HYF.o,G5F.o⟩
   case round=>
    obtain⟨j,z,rw9,hj,rfl,hrow,hz,hwk,heq,A2n,hy,hg⟩:=hrel;obtain⟨alz,clz,aoz,coz,ahz,chz,anz,cnz,hrw⟩:=hz.dJ;simp only [Value.agg.injEq] at hrw;subst hrw;have jw:=I hrow;have HZ:=I hz;have C8:=I hwk;have nF:=I heq;have xS:=I A2n;have HY:=I hy;have wW:=I hg;clear hrow hz hwk heq A2n hy hg;obtain⟨b0,b1,b2,b3,b4,b5⟩:=bF jw.o;have zb:Gx<wr.heap.size:=(γ jw.o);by_cases xT:j<30
    ·have ta:decide ((j:Int)<30)=true:=by simp;omega
     have tb:decide (j<30)=true:=decide_eq_true xT;go_wp2_with fail
     refine(VT wr (HZ.o.mono (qL _ _)) C8.o).mono ?_;rintro e wg ⟨rfl,hbg⟩;have GG:=I hbg;clear hbg b0 b1 b2 b3 b4 b5 zb;have A0X:=I xT;cases hid:idleA z with
     |true=>
      have HEX:Hid (y=z/\m=j):=I (by
       have h9:=nF.o;obtain⟨f,hf⟩:∃f,30 - j=f+1:=⟨29 - j,V⟩;rw [hf] at h9;unfold gq at h9;rw [bC hid] at h9;simp only [Prod.mk.injEq] at h9;exact⟨h9.1,V⟩)
      clear hid ta tb xT;obtain⟨xV,x8⟩:=HEX.o;have ujm:((j:Int)==(m:Int))=true:=by rw [x8];simp
      have HYZ:=I xV;clear xV x8 HEX;obtain⟨c0,c1,c2,c3,c4,c5⟩:=bF (aF jw.o GG.o);have zc:Gx<wg.heap.size:=(Array.getElem?_eq_some_iff.1 (aF jw.o GG.o)).1;obtain⟨d0,d1,d2,d3,d4,d5⟩:=bF (aF xS.o GG.o);have zd:B13<wg.heap.size:=(Array.getElem?_eq_some_iff.1 (aF xS.o GG.o)).1;go_wp2_with fail
      refine(lT wg ((HY.o.mono (qL _ _)).mono (aK.sub GG.o)) (by rw [HYZ.o];exact(HZ.o.mono (qL _ _)).mono (aK.sub GG.o)) HSX.o.I5.2).mono ?_;rintro e wk ⟨rfl,hbk⟩;clear c0 c1 c2 c3 c4 c5 zc d0 d1 d2 d3 d4 d5 zd;go_wp2;go_ret;exact⟨rfl,G15.o.trans (wW.o.trans (aK.trans GG.o hbk))⟩
     |false=>
      have og:Hid ((y,m)=((gq (30 - (j+1)) (fQ z)).1,(gq (30 - (j+1)) (fQ z)).2+(j+1))):=I (by
       have h9:=nF.o;rw [show 30 - j=(30 - (j+1))+1 by omega,oK _ hid] at h9;rw [h9];simp only [Prod.mk.injEq,true_and];omega)
      have HWN:=I ((C8.o.round V).up (k':=150+(j+1)*1100) V V);have HZg:=I (HZ.o.mono (JY GG.o.sub));have A0Y:=I (aF jw.o GG.o);clear hid ta tb xT;obtain⟨b0,b1,b2,b3,b4,b5⟩:=bF A0Y.o;have zb:Gx<wg.heap.size:=(γ A0Y.o);go_wp2_with fail
      refine(Qk (c:=wo Gx wg.cell?) wg (qL _ _) HZg.o C8.o (τ A0X.o)).mono ?_;rintro e wh ⟨vh,rfl,hxh,hbh⟩;have hbl:Gx<wg.heap.size:=zb;have HXH:=I (hxh.mono (X7 hbh hbl));have GH:=I hbh;generalize fQ z=z2 at*;obtain⟨alh,clh,aoh,coh,ahh,chh,anh,cnh,rfl⟩:=hxh.dJ;have A3s:=I (aF A0Y.o hbh);clear hxh hbh hbl b0 b1 b2 b3 b4 b5 zb;go_wp2_with (first|(refine aQ rfl (.tmp 10) (.tmp 111) rfl rfl rfl A3s.o dN rfl rfl ?_))
      intro wi ri gi;have RI:=I ri;have A3t:=I (bJ (aF xS.o (GG.o.trans GH.o)) gi (by intro e;have:=bI e;have:=rE.o;omega));have HZI:=I (HXH.o.mono (Zl gi));have HYI:=I (HY.o.mono ((JY (GG.o.trans GH.o).sub).trans (Zl gi)));have G5I:=I ((wW.o.trans (GG.o.trans GH.o)).grown gi (fun q O=>by have:=bI O;have:=rE.o;omega));clear ri gi;go_wp2;go_roundw
      case rel=>exact⟨j+1,z2,_,by have:=A0X.o;omega,by go_num,RI.o,HZI.o,HWN.o,og.o,A3t.o,HYI.o,G5I.o⟩
      case measure=>have:=A0X.o;simp [intOf];omega
    ·have ta:decide ((j:Int)<30)=false:=by simp;omega
     have tb:decide (j<30)=false:=decide_eq_false xT;have HEX:Hid (y=z/\m=j):=I (by
      have h9:=nF.o;rw [show 30 - j=0 by omega] at h9;unfold gq at h9;simp only [Prod.mk.injEq] at h9;exact⟨h9.1,V⟩)
     clear b0 b1 b2 b3 b4 b5 zb;obtain⟨xV,x8⟩:=HEX.o;have ujm:((j:Int)==(m:Int))=true:=by rw [x8];simp
     have HYZ:=I xV;clear xV x8 HEX;obtain⟨c0,c1,c2,c3,c4,c5⟩:=bF (aF jw.o (aG wr));have zc:Gx<wr.heap.size:=(Array.getElem?_eq_some_iff.1 (aF jw.o (aG wr))).1;obtain⟨d0,d1,d2,d3,d4,d5⟩:=bF (aF xS.o (aG wr));have zd:B13<wr.heap.size:=(Array.getElem?_eq_some_iff.1 (aF xS.o (aG wr))).1;go_wp2_with fail
     refine(lT wr ((HY.o.mono (qL _ _)).mono (aK.sub (aG wr))) (by rw [HYZ.o];exact(HZ.o.mono (qL _ _)).mono (aK.sub (aG wr))) HSX.o.I5.2).mono ?_;rintro e wk ⟨rfl,hbk⟩;clear c0 c1 c2 c3 c4 c5 zc d0 d1 d2 d3 d4 d5 zd;go_wp2;go_ret;exact⟨rfl,G15.o.trans (wW.o.trans (aK.trans (aG wr) hbk))⟩
end Go.Proofs.YtocnmkefmgmkbaaGreat
namespace Go.Proofs.YtocnmkefmgmkbaaGreat
open Go.RowKit Go.ChangeShapes Go.WideShapes Go.ChangeAt
def Reads {α:Type} (P:Program) (t:TypeId) (T:Ty α):Prop:=∀(H:Type) (enc:TypeId×Value->H) (W:World) (fuel:Nat) (cs:List Value) (x:DataW H×List MemPlace),
 DataW.trod enc P W 0 (fun _=>true) true fuel t cs=some x->∃y,T.R W.cell? cs y
theorem gY {P:Program} {t:TypeId} (ht:P.underlying t=some (.int .i64)):Reads P t Ty.int:=by
 intro H enc W fuel cs x h;obtain⟨n,rfl,_,hw⟩:=DataW.trod_int ht h;exact⟨n,rfl,hw⟩
theorem oL {α:Type} {P:Program} {t e:TypeId} {T:Ty α} (hR:Reads P e T) (ht:P.underlying t=some (.slice e)) (hc:P.cellsOf e=T.size) (h0:0<T.size):Reads P t T.sl:=by
 intro H enc W fuel cs x h;rcases Deep.open_slice ht h with⟨rfl,_⟩|⟨a,len,cap,m,n,D,Pl,rfl,_,hl,hm,hmm,hxe,Z⟩
 ·exact⟨[],_,rfl,none,0,rfl,Nat.le_refl _,Nat.zero_le _,fun _=>rfl,fun i x e=>by simp at e⟩
 ·simp only [if_true] at hmm
  subst m;have Y:∀i,i<len->∃(p:List Value×α),T.R W.cell? p.1 p.2/\W.cells? 0 (a.add (i*T.size)) T.size=some p.1:=by
   intro i hi;obtain⟨cs',N,Y⟩:=Z i V;obtain⟨y,hy⟩:=hR H enc W n cs' _ Y;rw [hc] at N;exact⟨(cs',y),hy,N⟩
  have h3:∃l:List α,l.length=len/\∀i y,l[i]? =some y->∃cs',T.R W.cell? cs' y/\W.cells? 0 (a.add (i*T.size)) T.size=some cs':=by
   clear Z hl h hxe;induction len with
   |zero=>exact⟨[],rfl,σ⟩
   |succ len ih=>
    obtain⟨l,hl,hi⟩:=ih (by intro i hi;exact Y i V);obtain⟨⟨cs',y⟩,hy,N⟩:=Y len V;refine⟨l++ [y],by simp [hl],fun i z hz=>?_⟩;rcases Nat.lt_or_ge i l.length with hlt|hge
    ·rw [List.getElem?_append_left hlt] at hz;exact hi i z hz
    ·have hb:=(List.getElem?_eq_some_iff.1 hz).1
     simp at hb;obtain rfl:i=len:=by omega
     rw [List.getElem?_append_right hge,hl] at hz;simp at hz;subst hz;exact⟨cs',hy,N⟩
  obtain⟨l,hlen,hl2⟩:=h3;refine⟨l,_,rfl,some a,cap,by rw [hlen],V,hm,σ,fun i y hy=>?_⟩;obtain⟨cs',hR',hcs⟩:=hl2 i y hy;obtain⟨_,hlen',hat⟩:=World.cells?_some hcs;have hpos:0<l.length:=by have:=(List.getElem?_eq_some_iff.1 hy).1;omega
  obtain⟨cs0,_,hcs0⟩:=hl2 0 l[0] (dM hpos);obtain⟨_,hlen0,XW⟩:=World.cells?_some hcs0;have hfirst:=XW 0 h0;rw [dM V] at hfirst;have hsp:=World.cell?_spot hfirst;obtain⟨b,o,s⟩:=a;have hs:s=none:=by simpa [Addr.add] using hsp
  subst hs;refine⟨b,o,cs',rfl,hR',fun j u hu=>?_⟩;have hj:j<T.size:=by rw [<-hlen'];exact(List.getElem?_eq_some_iff.1 hu).1
  have:=hat j hj;rw [Addr.add_lit,Addr.add_lit,hu] at this;exact this
def structOf (P:Program) (t:TypeId):Option (List (TypeId×Nat×Nat)):=
 match P.underlying t with
 |some (.struct fs)=>some (fs.toList.map fun f=>(f.type,f.offset,P.cellsOf f.type))
 |_=>none
theorem jk {P:Program} {t:TypeId} {fs':List (TypeId×Nat×Nat)} (hs:structOf P t=some fs') {H:Type} {enc:TypeId×Value->H} {W:World} {fuel:Nat} {cs:List Value} {x:DataW H×List MemPlace}
  (h:DataW.trod enc P W 0 (fun _=>true) true fuel t cs=some x):cs.length=P.cellsOf t/\∀(i:Nat) (f:TypeId×Nat×Nat),fs'[i]? =some f->∃n y,DataW.trod enc P W 0 (fun _=>true) true n f.1 ((cs.drop f.2.1).take f.2.2)=some y:=by
 unfold structOf at hs;split at hs
 ·rename_i fs hu
  obtain rfl:=bI hs;obtain⟨xs,n,_,_,hl,hlen,hf⟩:=DataW.trod_struct hu h;refine⟨hl,fun i f hi=>?_⟩;rw [List.getElem?_map] at hi;cases hfi:fs.toList[i]? with
  |none=>rw [hfi] at hi;cases hi
  |some fd=>
   rw [hfi] at hi;obtain rfl:=bI hi;have NP:fs[i]? =some fd:=by simpa using hfi
   have hlt:i<xs.length:=by rw [hlen];exact(Array.getElem?_eq_some_iff.1 NP).1
   have:=hf i fd NP;rw [dM hlt] at this;exact⟨n,_,this⟩
 ·cases hs
theorem wJ:Reads Tryz.prog 111 Ty.pt:=by
 intro H enc W fuel cs x h;obtain⟨hl,hf⟩:=jk (fs':=[(3,0,1),(3,1,1),(3,2,1)]) κ h;rw [show(Tryz.prog).cellsOf 111=3 by kernel_rfl] at hl;match cs,hl with
 | [a,b,c],_=>
  obtain⟨_,_,h0⟩:=hf 0 _ rfl;obtain⟨_,_,N⟩:=hf 1 _ rfl;obtain⟨_,_,Y⟩:=hf 2 _ rfl;obtain⟨x0,e0,w0⟩:=gY κ _ _ _ _ _ _ h0;obtain⟨x1,e1,w1⟩:=gY κ _ _ _ _ _ _ N;obtain⟨x2,e2,w2⟩:=gY κ _ _ _ _ _ _ Y;refine⟨⟨x0,x1,x2⟩,?_,w0,w1,w2⟩;simp at e0 e1 e2;subst e0 e1 e2;rfl
theorem sJ:Reads Tryz.prog 23 Ty.pts:=oL wJ κ κ ε
theorem EF {α:Type} {P:Program} {t e:TypeId} {T:Ty α} (hR:Reads P t T.sl) (ht:P.underlying t=some (.slice e)) {H:Type} {enc:TypeId×Value->H} {W:World} {r:Reach} {b:Nat} {v:Value} {d:DataW H} {p:List MemPlace}
  (hval:Value.okWide P W r b t v) (h:DataW.Trod enc P W 0 (fun _=>true) true t v d p):∃l,Sl T W.cell? v l:=by
 obtain⟨a,len,cap,rfl⟩:=okWide_slice ht hval;obtain⟨fuel,hf⟩:=h;obtain⟨l,v,e,hv⟩:=hR _ _ _ _ _ _ hf;simp [Value.cells] at e;subst e;exact⟨l,hv⟩
theorem own:ownKnob (Tryz.prog).godebug=none:=by kernel_rfl
theorem laidOut:laidOutB Tryz.prog=true:=by kernel_rfl
end Go.Proofs.YtocnmkefmgmkbaaGreat
namespace Go.Proofs.YtocnmkefmgmkbaaGreat
open Go.RowKit Go.ChangeShapes Go.WideShapes Go.ChangeAt
theorem EG {α:Type} {T:Ty α} {c:CM} {a:Option Addr} {n cap:Nat} {l:List α} (h:Sl T c (U a n cap) l):l.length=n:=by
 obtain⟨a',cap',he,_⟩:=h;simp only [Value.slice.injEq] at he;exact he.2.1.symm
theorem wK {α:Type} {P:Program} {t e:TypeId} {T:Ty α} {k:Nat} (ht:P.underlying t=some (.slice e)) (hb:P.bytesOf e=k) {H:Type} {enc:TypeId×Value->H} {W:World} {r:Reach} {b:Nat} {v:Value} {d:DataW H} {p:List MemPlace} {ts:List TypeId} {ds:List (DataW H)} {j:Nat}
  (hsz:(DataW.weightsEach P ts ds).all (· <=reachBytes)=true) (hj:ts[j]? =some t) (hd:ds[j]? =some d)
  (hval:Value.okWide P W r b t v) (h:DataW.Trod enc P W 0 (fun _=>true) true t v d p) {l:List α} (hl:Sl T W.cell? v l):l.length*k<=140737488351232:=by
 obtain⟨a,len,cap,rfl⟩:=okWide_slice ht hval;obtain⟨fuel,hf⟩:=h;have hll:=EG hl;rcases Deep.open_slice ht hf with⟨he,_⟩|⟨a',len',cap',m,n,D,Pl,he,_,hlc,_,hmm,hxe,_⟩
 ·simp [Value.cells] at he
  rw [hll,he.2.1];simp
 ·simp [Value.cells] at he
  obtain⟨_,rfl,rfl⟩:=he;obtain rfl:d=.slice ((List.range len).map D) ((List.range (m - len)).map fun j=>D (len+j)):=by simpa using congrArg Prod.fst hxe
  have:=sized_slice hsz hj hd ht;rw [hb,List.length_map,List.length_range] at this;rw [hll];have Y:len*k<=(len+((List.range (m - len)).map fun j=>D (len+j)).length)*k:=Nat.mul_le_mul_right _ (Nat.le_add_right _ _);have h3:reachBytes=140737488351232:=rfl;omega
theorem wL:Reads Tryz.prog 25 Ty.st:=by
 intro H enc W fuel cs x h;obtain⟨hl,hf⟩:=jk (fs':=[(3,0,1),(3,1,1),(23,2,1)]) κ h;rw [show(Tryz.prog).cellsOf 25=3 by kernel_rfl] at hl;match cs,hl with
 | [a,b,c],_=>
  obtain⟨_,_,h0⟩:=hf 0 _ rfl;obtain⟨_,_,N⟩:=hf 1 _ rfl;obtain⟨_,_,Y⟩:=hf 2 _ rfl;obtain⟨x0,e0,w0⟩:=gY κ _ _ _ _ _ _ h0;obtain⟨x1,e1,w1⟩:=gY κ _ _ _ _ _ _ N;obtain⟨x2,v2,e2,w2⟩:=sJ _ _ _ _ _ _ Y;refine⟨⟨x0,x1,x2⟩,v2,?_,w0,w1,w2⟩;simp at e0 e1 e2;subst e0 e1 e2;rfl
theorem sK:Reads Tryz.prog 22 (Ty.sl Ty.st):=oL wL κ κ ε
end Go.Proofs.YtocnmkefmgmkbaaGreat
