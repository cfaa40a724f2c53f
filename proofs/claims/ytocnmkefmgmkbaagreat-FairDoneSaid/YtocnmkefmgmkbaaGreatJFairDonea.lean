/- Parts of proofs, joined: P4, E1, Str, Z2, E2, E4, Q10, G2, G13, A12, E3, G26, K33, Trod, Trod2, Trod3. No condition beside those that each theorem names. -/
import Derived.Laws.BytesArg
import Derived.Lib.SlBytesRow
import Derived.Deep.Slices
import Derived.OpenShut
import Derived.Below
import Derived.ChangeOld
import Derived.ProofKit
import Derived.SizedLaws
import Derived.Test.YtocnmkefmgmkbaaGreatJE1b
import Derived.Test.YtocnmkefmgmkbaaGreatJE6a
import Derived.Test.YtocnmkefmgmkbaaGreatJE4b
import Derived.Test.YtocnmkefmgmkbaaGreatJEUa
import Derived.Test.YtocnmkefmgmkbaaGreatJEHa
import Derived.Test.YtocnmkefmgmkbaaGreatJE7b
import Derived.Test.YtocnmkefmgmkbaaGreatJEDa
import Derived.Test.YtocnmkefmgmkbaaGreatJE9a
import Derived.Test.YtocnmkefmgmkbaaGreatJE3a
import Derived.Test.YtocnmkefmgmkbaaGreatJE2a
import Derived.Test.YtocnmkefmgmkbaaGreatJEGa
import Derived.Test.YtocnmkefmgmkbaaGreatJE5a
import Derived.Test.YtocnmkefmgmkbaaGreatJEAa
set_option maxRecDepth 100000
set_option maxHeartbeats 40000000
namespace Go.Proofs.YtocnmkefmgmkbaaGreat
open Go.RowKit
theorem NQ:Tryz.prog.eqGuardType Tryz.prog.depth 111=false:=by kernel_rfl
theorem XY (p q:Pt) (w:World):(binOp .eql 111 (.agg #[J p.h,J p.k,J p.n]) (.agg #[J q.h,J q.k,J q.n])).run Tryz.prog w=.ok (.bool (decide (p=q))) w:=by
 have u3:=Tryz.underlying3;have a3:=Tryz.isAgg3;have z3:=Tryz.sizeOf3;have hS:Tryz.prog.underlying 111=some (.struct (Tryz.prog.fieldsOf 111)):=by kernel_rfl
 have hp:Tryz.prog.stoodInHeld 111=false:=by kernel_rfl
 rw [run_eql_struct,show(10000:Nat)=9999+1 from rfl,run_equalIn_agg w 9999 111 _ _ hS hp];simp only [Program.fieldsOf,Tryz.underlying111];obtain⟨a,b,c⟩:=p;obtain⟨a',b',c'⟩:=q;go_simp;by_cases N:a=a'<;>by_cases Y:b=b'<;>by_cases h3:c=c'<;>simp [N,Y,h3]
theorem XZ (p q:Pt) (w:World):(binOp .neq 111 (.agg #[J p.h,J p.k,J p.n]) (.agg #[J q.h,J q.k,J q.n])).run Tryz.prog w=.ok (.bool (!decide (p=q))) w:=by
 have h:=XY p q w;rw [run_eql_struct] at h;rw [run_neq_struct];cases hr:(Op.equalIn 10000 111 (.agg #[J p.h,J p.k,J p.n]) (.agg #[J q.h,J q.k,J q.n])).run Tryz.prog w with
 |ok b w'=>rw [hr] at h;simp only [Result.andThen_ok,Result.ok.injEq,Value.bool.injEq] at h ⊢;exact⟨by rw [h.1],h.2⟩
 |halt x w'=>rw [hr] at h;simp [Result.andThen] at h
theorem lS {v v':Value} {l l':List Pt} (w:World) (hv:pX w.cell? v l) (hv':pX w.cell? v' l'):
  Calls Tryz.prog 62 #[v,v'] w fun e w'=>e=.returned (.bool (decide (l=l')))/\aK w w':=by
 obtain⟨a,cap,rfl,N,Y,-,hel⟩:=hv;obtain⟨a',cap',rfl,h1',h2',-,iH⟩:=hv';unfold maxLen at Y h2';by_cases hlen:l.length=l'.length
 ·have hb:((l.length:Int) !=l'.length)=false:=by simp [hlen]
  have HL:=I hlen;clear hlen;go_enter Tryz.func62,Tryz.ntmps62;go_wp2;go_loopw [4,5,13] (fun _ _ i wr=>∃k:Nat,k<=l.length/\i=J k/\aK w wr/\∀j,j<k->l[j]? =l'[j]?) (fun _ _ i _=>l.length - (intOf i).toNat)
  case atStart=>exact⟨0,V,rfl,je,fun j h=>V⟩
  case round=>
   obtain⟨k,hk',rfl,hb,hE⟩:=hrel;have HE:=I hE;clear hE;by_cases hlt:k<l.length
   ·have hlt':k<l'.length:=by have:=HL.o;omega
    obtain⟨b,o,rfl,c0,c1,c2,-,-,-⟩:=pX.at_ hel k hlt;obtain⟨b',o',rfl,c0',c1',c2',-,-,-⟩:=pX.at_ iH k hlt';replace c0:=hb.sub _ _ c0;replace c1:=hb.sub _ _ c1;replace c2:=hb.sub _ _ c2;replace c0':=hb.sub _ _ c0';replace c1':=hb.sub _ _ c1';replace c2':=hb.sub _ _ c2';clear hel iH;generalize hp:l[k]=p at*;generalize hp':l'[k]=p' at*;have HP:=I hp;have HP':=I hp';clear hp hp';have hg:=NQ;have HN:∀w,(binOp .neq 111 (.agg #[J p.h,J p.k,J p.n]) (.agg #[J p'.h,J p'.k,J p'.n])).run Tryz.prog w=.ok (.bool (!decide (p=p'))) w:=fun w=>XZ p p' w;by_cases hpp:p=p'
    ·simp only [hpp,decide_true,Bool.not_true] at HN
     have HQ:=I hpp;subst hpp;go_wp2_with (go_quiet (fail))
     go_roundw
     case rel=>exact⟨k+1,V,by go_num,je,fun j hj=>by
      by_cases h:j=k
      ·subst h;rw [dM hlt,dM hlt',HP.o,HP'.o]
      ·exact HE.o j V⟩
     case measure=>simp [intOf];omega
    ·simp only [hpp,decide_false,Bool.not_false] at HN
     have HQ:=I hpp;clear hpp;go_wp2_with (go_quiet (fail))
     go_ret;exact⟨dA (by
      rw [eq_comm,decide_eq_false_iff_not];rintro rfl;exact HQ.o (by rw [<-HP.o,<-HP'.o])),je⟩
   ·clear hel iH
    go_wp2;go_ret;refine⟨dA ?_,hb⟩;rw [eq_comm,decide_eq_true_eq];apply List.ext_getElem?;intro j;by_cases h:j<k
    ·exact HE.o j h
    ·rw [List.getElem?_eq_none V,List.getElem?_eq_none (τ HL.o)]
 ·have hb:((l.length:Int) !=l'.length)=true:=by simp;omega
  have hE:decide (l=l')=false:=by rw [decide_eq_false_iff_not];rintro rfl;exact hlen rfl
  have HE:=I hE;clear hlen hE hel iH;go_enter Tryz.func62,Tryz.ntmps62;go_wp2;go_ret;exact⟨dA HE.o.symm,je⟩
theorem mV {α:Type} {l l':List α} {k:Nat} (hl:l.length=l'.length) (hk:l.length<=k) (h:∀j,j<k->l[j]? =l'[j]?):l=l':=by
 apply List.ext_getElem?;intro j;by_cases hj:j<k
 ·exact h j hj
 ·rw [List.getElem?_eq_none V,List.getElem?_eq_none V]
theorem kU {α:Type} {l l':List α} {k:Nat} (N:k<l.length) (Y:k<l'.length) (h:∀j,j<k->l[j]? =l'[j]?) (he:l[k]=l'[k]):∀j,j<k+1->l[j]? =l'[j]?:=by
 intro j hj;by_cases e:j=k
 ·subst e;rw [dM N,dM Y,he]
 ·exact h j V
theorem oM {α:Type} [DecidableEq α] {l l':List α} {k:Nat} (N:k<l.length) (Y:k<l'.length) (he:¬l[k]=l'[k]):decide (l=l')=false:=by
 rw [decide_eq_false_iff_not];rintro rfl;exact he rfl
theorem rD {v v':Value} {l l':List Int} (w:World) (hv:Ints w.cell? v l) (hv':Ints w.cell? v' l'):
  Calls Tryz.prog 64 #[v,v'] w fun e w'=>e=.returned (.bool (decide (l=l')))/\aK w w':=by
 obtain⟨a,cap,rfl,N,Y,-,hel⟩:=hv;obtain⟨a',cap',rfl,h1',h2',-,iH⟩:=hv';unfold maxLen at Y h2';by_cases hlen:l.length=l'.length
 ·have hb:((l.length:Int) !=l'.length)=false:=by simp [hlen]
  have HL:=I hlen;clear hlen;go_enter Tryz.func64,Tryz.ntmps64;go_wp2;go_loopw [4,5,13] (fun _ _ i wr=>∃k:Nat,k<=l.length/\i=J k/\aK w wr/\∀j,j<k->l[j]? =l'[j]?) (fun _ _ i _=>l.length - (intOf i).toNat)
  case atStart=>exact⟨0,V,rfl,je,fun j h=>V⟩
  case round=>
   obtain⟨k,hk',rfl,hb,hE⟩:=hrel;by_cases hlt:k<l.length
   ·have hlt':k<l'.length:=by have:=HL.o;omega
    have H1:=I (kU hlt hlt' hE);have H2:Hid (¬l[k]=l'[k]->decide (l=l')=false):=fun h=>oM hlt hlt' h;clear hE;obtain⟨b,o,rfl,c0,-⟩:=xu hel k hlt;obtain⟨b',o',rfl,c0',-⟩:=xu iH k hlt';replace c0:=hb.sub _ _ c0;replace c0':=hb.sub _ _ c0';clear hel iH;generalize l[k]=p at*;generalize l'[k]=p' at*;by_cases hpp:p=p'
    ·have H3:=I (H1.o hpp)
     have hne:(p !=p')=false:=by simp [hpp]
     clear hpp H1 H2;go_wp2_with (go_quiet (fail))
     go_roundw
     case rel=>exact⟨k+1,V,by go_num,je,H3.o⟩
     case measure=>simp [intOf];omega
    ·have H3:=I (H2.o hpp)
     have hne:(p !=p')=true:=by simp [hpp]
     clear hpp H1 H2;go_wp2_with (go_quiet (fail))
     go_ret;exact⟨dA H3.o.symm,je⟩
   ·have HE:=I hE
    clear hel iH hE;go_wp2;go_ret;refine⟨dA ?_,hb⟩;rw [eq_comm,decide_eq_true_eq];exact mV HL.o V HE.o
 ·have hb:((l.length:Int) !=l'.length)=true:=by simp;omega
  have HE:Hid (decide (l=l')=false):=by show _=_;rw [decide_eq_false_iff_not];rintro rfl;exact hlen rfl
  clear hlen hel iH;go_enter Tryz.func64,Tryz.ntmps64;go_wp2;go_ret;exact⟨dA HE.o.symm,je⟩
theorem yc {v v':Value} {l l':List Rd} (w:World) (hv:Sl Ty.rd w.cell? v l) (hv':Sl Ty.rd w.cell? v' l'):
  Calls Tryz.prog 23 #[v,v'] w fun e w'=>e=.returned (.bool (decide (l=l')))/\aK w w':=by
 obtain⟨a,cap,rfl,N,Y,-,hel⟩:=hv;obtain⟨a',cap',rfl,h1',h2',-,iH⟩:=hv';unfold maxLen at Y h2';by_cases hlen:l.length=l'.length
 ·have hb:((l.length:Int) !=l'.length)=false:=by simp [hlen]
  have HL:=I hlen;clear hlen;go_enter Tryz.func23,Tryz.ntmps23;go_wp2;go_loopw [4,5,13] (fun _ _ i wr=>∃k:Nat,k<=l.length/\i=J k/\aK w wr/\∀j,j<k->l[j]? =l'[j]?) (fun _ _ i _=>l.length - (intOf i).toNat)
  case atStart=>exact⟨0,V,rfl,je,fun j h=>V⟩
  case round=>
   obtain⟨k,hk',rfl,hb,hE⟩:=hrel;by_cases hlt:k<l.length
   ·have hlt':k<l'.length:=by have:=HL.o;omega
    have H1:=I (kU hlt hlt' hE);have H2:Hid (¬l[k]=l'[k]->decide (l=l')=false):=fun h=>oM hlt hlt' h;clear hE;obtain⟨b,o,vp,rfl,c0,c1,-,hp⟩:=VU.at_ hel k hlt;obtain⟨b',o',mI,rfl,c0',c1',-,hp'⟩:=VU.at_ iH k hlt';obtain⟨ap,cp,rfl,-⟩:=id hp;obtain⟨Oo,cp',rfl,-⟩:=id hp';have C_:=I (fun(W:World) (hW:aK wr W)=>lS W (hp.mono (hb.trans hW).sub) (hp'.mono (hb.trans hW).sub));replace c0:=hb.sub _ _ c0;replace c0':=hb.sub _ _ c0';replace c1:=hb.sub _ _ c1;replace c1':=hb.sub _ _ c1';clear hel iH hp hp';generalize l[k]=p at*;generalize l'[k]=p' at*;have HS:Hid (∀W,aK wr W->W.cell? ⟨b,o+k*2,none⟩=some (J p.aJ)/\W.cell? ⟨b,o+k*2+1,none⟩=some (U ap p.aH.length cp)/\W.cell? ⟨b',o'+k*2,none⟩=some (J p'.aJ)/\W.cell? ⟨b',o'+k*2+1,none⟩=some (U Oo p'.aH.length cp')):=fun W hW=>⟨hW.sub _ _ c0,hW.sub _ _ c1,hW.sub _ _ c0',hW.sub _ _ c1'⟩;by_cases hd:p.aJ=p'.aJ
    ·have hne:(p.aJ !=p'.aJ)=false:=by simp [hd]
     by_cases hpp:p.aH=p'.aH
     ·have hpe:p=p':=by cases p;cases p';simp_all
      have H3:=I (H1.o hpe);have hdec:=decide_eq_true hpp;rw [hdec] at C_;clear hd hpp hpe H1 H2 hdec;go_wp2;go_region_held3 (fun w'=>w'.cell? ⟨b,o+k*2,none⟩=some (J p.aJ)/\w'.cell? ⟨b,o+k*2+1,none⟩=some (U ap p.aH.length cp)/\w'.cell? ⟨b',o'+k*2,none⟩=some (J p'.aJ)/\w'.cell? ⟨b',o'+k*2+1,none⟩=some (U Oo p'.aH.length cp')) (first|assumption|exact HS.o _ Aw) (first|(go_at_call 62;refine(C_.o _ Aw).mono ?_;rintro e w4 ⟨rfl,qW⟩))
      go_wp2;go_roundw
      case rel=>exact⟨k+1,V,by go_num,hb.trans Aw,H3.o⟩
      case measure=>simp [intOf];omega
     ·have H3:=I (H2.o (fun e=>hpp (by rw [e])))
      have hdec:=decide_eq_false hpp;rw [hdec] at C_;clear hd hpp H1 H2 hdec;go_wp2;go_region_held3 (fun w'=>w'.cell? ⟨b,o+k*2,none⟩=some (J p.aJ)/\w'.cell? ⟨b,o+k*2+1,none⟩=some (U ap p.aH.length cp)/\w'.cell? ⟨b',o'+k*2,none⟩=some (J p'.aJ)/\w'.cell? ⟨b',o'+k*2+1,none⟩=some (U Oo p'.aH.length cp')) (first|assumption|exact HS.o _ Aw) (first|(go_at_call 62;refine(C_.o _ Aw).mono ?_;rintro e w4 ⟨rfl,qW⟩))
      go_wp2;go_ret;exact⟨dA H3.o.symm,hb.trans Aw⟩
    ·have H3:=I (H2.o (fun e=>hd (by rw [e])))
     have hne:(p.aJ !=p'.aJ)=true:=by simp [hd]
     clear hd H1 H2;go_wp2_with (go_quiet (fail))
     go_ret;exact⟨dA H3.o.symm,je⟩
   ·have HE:=I hE
    clear hel iH hE;go_wp2;go_ret;refine⟨dA ?_,hb⟩;rw [eq_comm,decide_eq_true_eq];exact mV HL.o V HE.o
 ·have hb:((l.length:Int) !=l'.length)=true:=by simp;omega
  have HE:Hid (decide (l=l')=false):=by show _=_;rw [decide_eq_false_iff_not];rintro rfl;exact hlen rfl
  clear hlen hel iH;go_enter Tryz.func23,Tryz.ntmps23;go_wp2;go_ret;exact⟨dA HE.o.symm,je⟩
def strOf (b:List UInt8):ByteArray:=⟨b.toArray⟩
theorem Jd {a b:List UInt8} (h:strOf a=strOf b):a=b:=by
 have:=congrArg (fun x:ByteArray=>x.data.toList) h;simpa [strOf] using this
theorem wM (b:List UInt8):(strOf b).toList=b:=by
 rw [ByteArray.toList_eq];simp [strOf]
theorem EH (l:List UInt8):strOfNums (l.map fun y=>(y.toNat:Int))=strOf l:=by
 apply ByteArray.ext;apply Array.toList_inj.1;rw [strOfNums_data,List.map_map];refine(List.map_congr_left (g:=id) ?_).trans (by simp [strOf]);intro y _;simp
theorem wO {w:World} {v:Value} {b:List UInt8} (h:Ya w.cell? v b):(convert 97 9 v).run Tryz.prog w=.ok (.string (strOf b)) w:=by
 obtain⟨a,cap,rfl,N,Y,h3,hel⟩:=h;cases a with
 |none=>
  have:=h3 rfl;have hl:b=[]:=List.eq_nil_of_length_eq_zero V;subst hl;exact run_convert_bytes_nil (P:=Tryz.prog) w 97 5 κ κ _ _ 9 κ
 |some ad=>
  cases b with
  |nil=>
   have hl:(loadCells ad 0).run Tryz.prog w=.ok (([]:List Int).map (Value.int .u8)).toArray w:=by
    have:=run_loadCells_list (P:=Tryz.prog) w ad [] (fun j v hj=>by simp at hj);simpa using this
   rw [run_convert_bytes_string w _ _ _ _ _ _ (show Tryz.prog.underlying 97=some (.slice 5) by kernel_rfl) κ κ];exact run_bytesToString w ad 0 cap [] hl
  |cons x l=>
   obtain⟨bb,o,cs,he,-,-⟩:=hel 0 x rfl;obtain rfl:=bI he;have h9:=run_convert_bytes_arg (P:=Tryz.prog) w 97 5 κ κ bb o (x::l).length cap ((x::l).map fun y=>(y.toNat:Int)) σ (fun i hi=>by
    obtain⟨b2,o2,he2,hc⟩:=byteAt hel i hi;obtain⟨rfl,rfl⟩:bb=b2/\o=o2:=by simpa using he2
    rw [hc];rw [List.getD_eq_getElem?_getD,List.getElem?_map,dM hi];rfl) 9 κ
   rw [h9,EH]
theorem Cb {v v':Value} {l l':List (List UInt8)} (w:World) (hv:yS w.cell? v l) (hv':yS w.cell? v' l'):
  Calls Tryz.prog 24 #[v,v'] w fun e w'=>e=.returned (.bool (decide (l=l')))/\aK w w':=by
 obtain⟨a,cap,rfl,N,Y,-,hel⟩:=hv;obtain⟨a',cap',rfl,h1',h2',-,iH⟩:=hv';unfold maxLen at Y h2';by_cases hlen:l.length=l'.length
 ·have hb:((l.length:Int) !=l'.length)=false:=by simp [hlen]
  have HL:=I hlen;clear hlen;go_enter Tryz.func24,Tryz.ntmps24;go_wp2;go_loopw [4,5,13] (fun _ _ i wr=>∃k:Nat,k<=l.length/\i=J k/\aK w wr/\∀j,j<k->l[j]? =l'[j]?) (fun _ _ i _=>l.length - (intOf i).toNat)
  case atStart=>exact⟨0,V,rfl,je,fun j h=>V⟩
  case round=>
   obtain⟨k,hk',rfl,hb,hE⟩:=hrel;by_cases hlt:k<l.length
   ·have hlt':k<l'.length:=by have:=HL.o;omega
    have H1:=I (kU hlt hlt' hE);have H2:Hid (¬l[k]=l'[k]->decide (l=l')=false):=fun h=>oM hlt hlt' h;clear hE;obtain⟨b,o,vp,rfl,c0,hP⟩:=yS.at_ hel k hlt;obtain⟨b',o',mI,rfl,c0',hP'⟩:=yS.at_ iH k hlt';replace c0:=hb.sub _ _ c0;replace c0':=hb.sub _ _ c0';have hcv:∀q,(convert 97 9 vp).run Tryz.prog (wr.drewN q)=.ok (.string (strOf l[k])) (wr.drewN q):=fun q=>wO (hP.mono (hb.drewN q).sub);have hcv':∀q,(convert 97 9 mI).run Tryz.prog (wr.drewN q)=.ok (.string (strOf l'[k])) (wr.drewN q):=fun q=>wO (hP'.mono (hb.drewN q).sub);have Gv:Hid (strOf l[k]=strOf l'[k]->l[k]=l'[k]):=fun h=>Jd h;clear hel iH hP hP';generalize l[k]=p at*;generalize l'[k]=p' at*;by_cases hpp:strOf p=strOf p'
    ·have H3:=I (H1.o (Gv.o hpp))
     generalize strOf p=s at*;generalize strOf p'=s' at*;subst hpp;clear H1 H2 Gv;go_wp2_with (go_quiet (fail))
     go_roundw
     case rel=>exact⟨k+1,V,by go_num,je,H3.o⟩
     case measure=>simp [intOf];omega
    ·have H3:=I (H2.o (fun e9=>hpp (by rw [e9])))
     have hne:((strOf p).toList==(strOf p').toList)=false:=by
      rw [wM,wM,beq_eq_false_iff_ne];exact fun e9=>hpp (by rw [e9])
     generalize strOf p=s at*;generalize strOf p'=s' at*;clear hpp H1 H2 Gv;go_wp2_with (go_quiet (fail))
     go_ret;exact⟨dA H3.o.symm,je⟩
   ·have HE:=I hE
    clear hel iH hE;go_wp2;go_ret;refine⟨dA ?_,hb⟩;rw [eq_comm,decide_eq_true_eq];exact mV HL.o V HE.o
 ·have hb:((l.length:Int) !=l'.length)=true:=by simp;omega
  have HE:Hid (decide (l=l')=false):=by show _=_;rw [decide_eq_false_iff_not];rintro rfl;exact hlen rfl
  clear hlen hel iH;go_enter Tryz.func24,Tryz.ntmps24;go_wp2;go_ret;exact⟨dA HE.o.symm,je⟩
theorem tY {v v':Value} {l l':List Rc} (w:World) (hv:Sl Ty.rc w.cell? v l) (hv':Sl Ty.rc w.cell? v' l'):
  Calls Tryz.prog 63 #[v,v'] w fun e w'=>e=.returned (.bool (decide (l=l')))/\aK w w':=by
 obtain⟨a,cap,rfl,N,Y,-,hel⟩:=hv;obtain⟨a',cap',rfl,h1',h2',-,iH⟩:=hv';unfold maxLen at Y h2';by_cases hlen:l.length=l'.length
 ·have hb:((l.length:Int) !=l'.length)=false:=by simp [hlen]
  have HL:=I hlen;clear hlen;go_enter Tryz.func63,Tryz.ntmps63;go_wp2;go_loopw [4,5,13] (fun _ _ i wr=>∃k:Nat,k<=l.length/\i=J k/\aK w wr/\∀j,j<k->l[j]? =l'[j]?) (fun _ _ i _=>l.length - (intOf i).toNat)
  case atStart=>exact⟨0,V,rfl,je,fun j h=>V⟩
  case round=>
   obtain⟨k,hk',rfl,hb,hE⟩:=hrel;by_cases hlt:k<l.length
   ·have hlt':k<l'.length:=by have:=HL.o;omega
    have H1:=I (kU hlt hlt' hE);have H2:Hid (¬l[k]=l'[k]->decide (l=l')=false):=fun h=>oM hlt hlt' h;clear hE;obtain⟨b,o,vp,rfl,c0,c1,c2,-,-,hp⟩:=NT.at_ hel k hlt;obtain⟨b',o',mI,rfl,c0',c1',c2',-,-,hp'⟩:=NT.at_ iH k hlt';obtain⟨ap,cp,rfl,-⟩:=id hp;obtain⟨Oo,cp',rfl,-⟩:=id hp';have C_:=I (fun(W:World) (hW:aK wr W)=>lS W (hp.mono (hb.trans hW).sub) (hp'.mono (hb.trans hW).sub));replace c0:=hb.sub _ _ c0;replace c0':=hb.sub _ _ c0';replace c1:=hb.sub _ _ c1;replace c1':=hb.sub _ _ c1';replace c2:=hb.sub _ _ c2;replace c2':=hb.sub _ _ c2';clear hel iH hp hp';generalize l[k]=p at*;generalize l'[k]=p' at*;have HS:Hid (∀W,aK wr W->W.cell? ⟨b,o+k*3,none⟩=some (J p.aX)/\W.cell? ⟨b,o+k*3+1,none⟩=some (J p.aJ)/\W.cell? ⟨b,o+k*3+2,none⟩=some (U ap p.aH.length cp)/\W.cell? ⟨b',o'+k*3,none⟩=some (J p'.aX)/\W.cell? ⟨b',o'+k*3+1,none⟩=some (J p'.aJ)/\W.cell? ⟨b',o'+k*3+2,none⟩=some (U Oo p'.aH.length cp')):=fun W hW=>⟨hW.sub _ _ c0,hW.sub _ _ c1,hW.sub _ _ c2,hW.sub _ _ c0',hW.sub _ _ c1',hW.sub _ _ c2'⟩;by_cases hk:p.aX=p'.aX
    ·have hnk:(p.aX !=p'.aX)=false:=by simp [hk]
     by_cases hd:p.aJ=p'.aJ
     ·have hne:(p.aJ !=p'.aJ)=false:=by simp [hd]
      by_cases hpp:p.aH=p'.aH
      ·have hpe:p=p':=by cases p;cases p';simp_all
       have H3:=I (H1.o hpe);have hdec:=decide_eq_true hpp;rw [hdec] at C_;clear hk hd hpp hpe H1 H2 hdec;go_wp2;go_region_held3 (fun w'=>w'.cell? ⟨b,o+k*3,none⟩=some (J p.aX)/\w'.cell? ⟨b,o+k*3+1,none⟩=some (J p.aJ)/\w'.cell? ⟨b,o+k*3+2,none⟩=some (U ap p.aH.length cp)/\w'.cell? ⟨b',o'+k*3,none⟩=some (J p'.aX)/\w'.cell? ⟨b',o'+k*3+1,none⟩=some (J p'.aJ)/\w'.cell? ⟨b',o'+k*3+2,none⟩=some (U Oo p'.aH.length cp')) (first|assumption|exact HS.o _ Aw) (first|(go_at_call 62;refine(C_.o _ Aw).mono ?_;rintro e w4 ⟨rfl,qW⟩))
       go_wp2;go_roundw
       case rel=>exact⟨k+1,V,by go_num,hb.trans Aw,H3.o⟩
       case measure=>simp [intOf];omega
      ·have H3:=I (H2.o (fun e=>hpp (by rw [e])))
       have hdec:=decide_eq_false hpp;rw [hdec] at C_;clear hk hd hpp H1 H2 hdec;go_wp2;go_region_held3 (fun w'=>w'.cell? ⟨b,o+k*3,none⟩=some (J p.aX)/\w'.cell? ⟨b,o+k*3+1,none⟩=some (J p.aJ)/\w'.cell? ⟨b,o+k*3+2,none⟩=some (U ap p.aH.length cp)/\w'.cell? ⟨b',o'+k*3,none⟩=some (J p'.aX)/\w'.cell? ⟨b',o'+k*3+1,none⟩=some (J p'.aJ)/\w'.cell? ⟨b',o'+k*3+2,none⟩=some (U Oo p'.aH.length cp')) (first|assumption|exact HS.o _ Aw) (first|(go_at_call 62;refine(C_.o _ Aw).mono ?_;rintro e w4 ⟨rfl,qW⟩))
       go_wp2;go_ret;exact⟨dA H3.o.symm,hb.trans Aw⟩
     ·have H3:=I (H2.o (fun e=>hd (by rw [e])))
      have hne:(p.aJ !=p'.aJ)=true:=by simp [hd]
      clear hk hd H1 H2;go_wp2_with (go_quiet (fail))
      go_ret;exact⟨dA H3.o.symm,je⟩
    ·have H3:=I (H2.o (fun e=>hk (by rw [e])))
     have hnk:(p.aX !=p'.aX)=true:=by simp [hk]
     clear hk H1 H2;go_wp2_with (go_quiet (fail))
     go_ret;exact⟨dA H3.o.symm,je⟩
   ·have HE:=I hE
    clear hel iH hE;go_wp2;go_ret;refine⟨dA ?_,hb⟩;rw [eq_comm,decide_eq_true_eq];exact mV HL.o V HE.o
 ·have hb:((l.length:Int) !=l'.length)=true:=by simp;omega
  have HE:Hid (decide (l=l')=false):=by show _=_;rw [decide_eq_false_iff_not];rintro rfl;exact hlen rfl
  clear hlen hel iH;go_enter Tryz.func63,Tryz.ntmps63;go_wp2;go_ret;exact⟨dA HE.o.symm,je⟩
theorem wR (s t:Sm) (w:World):(binOp .eql 47 (.agg #[J s.a,J s.b,J s.c,J s.d]) (.agg #[J t.a,J t.b,J t.c,J t.d])).run Tryz.prog w=.ok (.bool (decide (s=t))) w:=by
 have u3:=Tryz.underlying3;have a3:=Tryz.isAgg3;have z3:=Tryz.sizeOf3;obtain⟨i,z,hi,_⟩:=jL.hi;have hc:Tryz.prog.cellsOf 3=1:=by kernel_rfl
 rw [run_eql_struct,show(10000:Nat)=9999+1 from rfl,run_equalIn_array w 9999 _ _ Tryz.underlying47 hi,hc,show List.range 4=[0,1,2,3] from rfl];clear hi;simp only [Op.eqItems];obtain⟨a,b,c,d⟩:=s;obtain⟨a',b',c',d'⟩:=t;go_simp;by_cases N:a=a'<;>by_cases Y:b=b'<;>by_cases h3:c=c'<;>by_cases h4:d=d'<;>simp [N,Y,h3,h4]
theorem oN:Tryz.prog.eqGuardType Tryz.prog.depth 47=false:=by kernel_rfl
theorem Ac {v v':Value} {h h':Hd} (w:World) (hv:Of Ty.hd w.cell? v h) (hv':Of Ty.hd w.cell? v' h'):
  Calls Tryz.prog 40 #[v,v'] w fun e w'=>e=.returned (.bool (decide (h=h')))/\aK w w':=by
 obtain⟨al,cl,ar,cr,rfl⟩:=hv.iw;obtain⟨iC,iD,oD,oG,rfl⟩:=hv'.iw;have k:=Of.lM hv;have k':=Of.lM hv';have HSL:=I (fun(W:World) (hW:aK w W)=>tY W (k.1.mono hW.sub) (k'.1.mono hW.sub));have kH:Hid (aK w ((w.alloc (.cells #[U al h.bg.length cl,J h.aW,J h.next,U ar h.bG.length cr] 29)).alloc (.cells #[U iC h'.bg.length iD,J h'.aW,J h'.next,U oD h'.bG.length oG] 29))):=I (((aG w).alloc _).alloc _);have zu:Hid (((w.alloc (.cells #[U al h.bg.length cl,J h.aW,J h.next,U ar h.bG.length cr] 29)).alloc (.cells #[U iC h'.bg.length iD,J h'.aW,J h'.next,U oD h'.bG.length oG] 29)).heap[w.heap.size]? =some (.cells #[U al h.bg.length cl,J h.aW,J h.next,U ar h.bG.length cr] 29 (0,0))):=I (bQ (bn _ _) _);have qF:Hid (((w.alloc (.cells #[U al h.bg.length cl,J h.aW,J h.next,U ar h.bG.length cr] 29)).alloc (.cells #[U iC h'.bg.length iD,J h'.aW,J h'.next,U oD h'.bG.length oG] 29)).heap[w.heap.size+1]? =some (.cells #[U iC h'.bg.length iD,J h'.aW,J h'.next,U oD h'.bG.length oG] 29 (0,0))):=I (by simpa using bn (w.alloc (.cells #[U al h.bg.length cl,J h.aW,J h.next,U ar h.bG.length cr] 29)) _);obtain⟨Oi,Oj,he,N,Y,-,hel⟩:=k.2;obtain⟨rfl,rfl⟩:ar=Oi/\cr=Oj:=by simpa using he
 obtain⟨ar3,cr3,he',h1',h2',-,iH⟩:=k'.2;obtain⟨rfl,rfl⟩:oD=ar3/\oG=cr3:=by simpa using he'
 unfold maxLen at Y h2';clear hv hv' k k' he he';by_cases hl:h.bg=h'.bg
 ·by_cases hb:h.aW=h'.aW
  ·by_cases hn:h.next=h'.next
   ·by_cases ho:h.bG.length=h'.bG.length
    ·have DL:=I (decide_eq_true hl)
     have b1:(h.aW !=h'.aW)=false:=by simp [hb]
     have b2:(h.next !=h'.next)=false:=by simp [hn]
     have b3:((h.bG.length:Int) !=h'.bG.length)=false:=by simp [ho]
     have nF:Hid (h.bG=h'.bG->h=h'):=fun e=>by cases h;cases h';simp_all
     have Am:=I ho;clear hl hb hn ho;go_enter Tryz.func40,Tryz.ntmps40;go_wp2_with fail
     refine(HSL.o _ kH.o).mono ?_;rw [DL.o];rintro e w1 ⟨rfl,dR⟩;(obtain⟨Gn,Hg⟩:=gu dR;have uw:w.heap.size<w1:=(ω dR.size);have Ad:w.heap.size+1<w1:=(ω dR.size);have pK:=I dR;clear dR)
     have Cc:Hid (aK w w1):=I (kH.o.trans pK.o);obtain⟨k0,k1,k2,k3⟩:=aT (aF zu.o pK.o);obtain⟨m0,m1,m2,m3⟩:=aT (aF qF.o pK.o);have NI:=I m3;clear Gn Hg;go_wp2;clear k0 k1 k2 k3 m0 m1 m2 m3;go_loopw [40] (fun i wr=>∃k:Nat,k<=h.bG.length/\i=J k/\aK w1 wr/\∀j,j<k->h.bG[j]? =h'.bG[j]?) (fun i _=>h.bG.length - (intOf i).toNat)
     case atStart=>exact⟨0,V,rfl,aG _,fun j h=>V⟩
     case round=>
      obtain⟨k,hk',rfl,hb,hE⟩:=hrel;by_cases hlt:k<h.bG.length
      ·have hlt':k<h'.bG.length:=by have:=Am.o;omega
       have H1:=I (kU hlt hlt' hE);have H2:Hid (¬h.bG[k]=h'.bG[k]->decide (h=h')=false):=fun Y=>by
        rw [decide_eq_false_iff_not];intro e;apply Y;simp [e]
       clear hE;obtain⟨b,o,vp,vh,rfl,c0,c1,c2,c3,-,hp,hh⟩:=EP.at_ hel k hlt;obtain⟨b',o',vq,vg,rfl,d0,d1,d2,d3,-,O,hg⟩:=EP.at_ iH k hlt';obtain⟨ap,cp,rfl,-⟩:=id hp;obtain⟨ah,ch,rfl,-⟩:=id hh;obtain⟨aq,cq,rfl,-⟩:=id O;obtain⟨ag,cg,rfl,-⟩:=id hg;have C_:=I (fun(W:World) (hW:aK wr W)=>lS W (hp.mono (Cc.o.trans (hb.trans hW)).sub) (O.mono (Cc.o.trans (hb.trans hW)).sub));have Gv:=I (fun(W:World) (hW:aK wr W)=>rD W (hh.mono (Cc.o.trans (hb.trans hW)).sub) (hg.mono (Cc.o.trans (hb.trans hW)).sub));replace c0:=(Cc.o.trans hb).sub _ _ c0;replace c1:=(Cc.o.trans hb).sub _ _ c1;replace c2:=(Cc.o.trans hb).sub _ _ c2;replace c3:=(Cc.o.trans hb).sub _ _ c3;replace d0:=(Cc.o.trans hb).sub _ _ d0;replace d1:=(Cc.o.trans hb).sub _ _ d1;replace d2:=(Cc.o.trans hb).sub _ _ d2;replace d3:=(Cc.o.trans hb).sub _ _ d3;have m3:=hb.sub _ _ NI.o;have z1:w.heap.size+1<wr:=eH wr _ m3;have z2:b'<wr.heap.size:=eH wr _ d0;clear hel iH hp hh O hg;generalize h.bG[k]=p at*;generalize h'.bG[k]=q at*;generalize eL:p.dec=bp at*;generalize eM:q.dec=bq at*;by_cases oO:p.aJ=q.aJ
       ·by_cases hdec:bp=bq
        ·subst hdec
         by_cases hparts:p.aH=q.aH
         ·by_cases hheard:p.aZ=q.aZ
          ·have hpe:p=q:=by cases p;cases q;simp_all
           have H3:=I (H1.o hpe);have n1:(p.aJ !=q.aJ)=false:=by simp [oO]
           have DP:=I (decide_eq_true hparts);have DI:=I (decide_eq_true hheard);clear hpe eL eM oO hparts hheard H1 H2;go_wp2_with fail
           refine(C_.o _ (((aG wr).alloc (.cells #[J p.aJ,U ap p.aH.length cp,.bool bp,U ah p.aZ.length ch] 58)).alloc (.cells #[J q.aJ,U aq q.aH.length cq,.bool bp,U ag q.aZ.length cg] 58))).mono ?_;rw [DP.o];rintro e w2 ⟨rfl,iq⟩;(obtain⟨Ym,Yn⟩:=gu iq;have JJ:wr.heap.size<w2:=(ω iq.size);have NR:wr.heap.size+1<w2:=(ω iq.size);have Dn:=I iq;clear iq)
           go_wp2_with fail
           refine(Gv.o _ ((((aG wr).alloc (.cells #[J p.aJ,U ap p.aH.length cp,.bool bp,U ah p.aZ.length ch] 58)).alloc (.cells #[J q.aJ,U aq q.aH.length cq,.bool bp,U ag q.aZ.length cg] 58)).trans Dn.o)).mono ?_;rw [DI.o];rintro e w3 ⟨rfl,kZ⟩;(obtain⟨cw3,fw3⟩:=gu kZ;have X0:wr.heap.size<w3:=(ω kZ.size);have X3:wr.heap.size+1<w3:=(ω kZ.size);have X4:=I kZ;clear kZ)
           go_wp2;go_roundw
           case rel=>exact⟨k+1,V,by go_num,hb.trans (((((aG wr).alloc (.cells #[J p.aJ,U ap p.aH.length cp,.bool bp,U ah p.aZ.length ch] 58)).alloc (.cells #[J q.aJ,U aq q.aH.length cq,.bool bp,U ag q.aZ.length cg] 58)).trans Dn.o).trans X4.o),H3.o⟩
           case measure=>simp [intOf];omega
          ·have H3:=I (H2.o (fun e=>hheard (by rw [e])))
           have n1:(p.aJ !=q.aJ)=false:=by simp [oO]
           have DP:=I (decide_eq_true hparts);have DI:=I (decide_eq_false hheard);clear eL eM oO hparts hheard H1 H2;go_wp2_with fail
           refine(C_.o _ (((aG wr).alloc (.cells #[J p.aJ,U ap p.aH.length cp,.bool bp,U ah p.aZ.length ch] 58)).alloc (.cells #[J q.aJ,U aq q.aH.length cq,.bool bp,U ag q.aZ.length cg] 58))).mono ?_;rw [DP.o];rintro e w2 ⟨rfl,iq⟩;(obtain⟨Ym,Yn⟩:=gu iq;have JJ:wr.heap.size<w2:=(ω iq.size);have NR:wr.heap.size+1<w2:=(ω iq.size);have Dn:=I iq;clear iq)
           go_wp2_with fail
           refine(Gv.o _ ((((aG wr).alloc (.cells #[J p.aJ,U ap p.aH.length cp,.bool bp,U ah p.aZ.length ch] 58)).alloc (.cells #[J q.aJ,U aq q.aH.length cq,.bool bp,U ag q.aZ.length cg] 58)).trans Dn.o)).mono ?_;rw [DI.o];rintro e w3 ⟨rfl,kZ⟩;(obtain⟨cw3,fw3⟩:=gu kZ;have X0:wr.heap.size<w3:=(ω kZ.size);have X3:wr.heap.size+1<w3:=(ω kZ.size);have X4:=I kZ;clear kZ)
           go_wp2;go_ret;exact⟨dA H3.o.symm,Cc.o.trans (hb.trans (((((aG wr).alloc (.cells #[J p.aJ,U ap p.aH.length cp,.bool bp,U ah p.aZ.length ch] 58)).alloc (.cells #[J q.aJ,U aq q.aH.length cq,.bool bp,U ag q.aZ.length cg] 58)).trans Dn.o).trans X4.o))⟩
         ·have H3:=I (H2.o (fun e=>hparts (by rw [e])))
          have n1:(p.aJ !=q.aJ)=false:=by simp [oO]
          have DP:=I (decide_eq_false hparts);clear eL eM oO hparts H1 H2;go_wp2_with fail
          refine(C_.o _ (((aG wr).alloc (.cells #[J p.aJ,U ap p.aH.length cp,.bool bp,U ah p.aZ.length ch] 58)).alloc (.cells #[J q.aJ,U aq q.aH.length cq,.bool bp,U ag q.aZ.length cg] 58))).mono ?_;rw [DP.o];rintro e w2 ⟨rfl,iq⟩;(obtain⟨Ym,Yn⟩:=gu iq;have JJ:wr.heap.size<w2:=(ω iq.size);have NR:wr.heap.size+1<w2:=(ω iq.size);have Dn:=I iq;clear iq)
          go_wp2;go_ret;exact⟨dA H3.o.symm,Cc.o.trans (hb.trans ((((aG wr).alloc (.cells #[J p.aJ,U ap p.aH.length cp,.bool bp,U ah p.aZ.length ch] 58)).alloc (.cells #[J q.aJ,U aq q.aH.length cq,.bool bp,U ag q.aZ.length cg] 58)).trans Dn.o))⟩
        ·have H3:=I (H2.o (fun e=>hdec (by rw [<-eL,<-eM,e])))
         have n1:(p.aJ !=q.aJ)=false:=by simp [oO]
         have h2b:(bp=true/\bq=false)∨(bp=false/\bq=true):=by cases bp<;>cases bq<;>simp_all
         clear eL eM oO hdec H1 H2;rcases h2b with⟨rfl,rfl⟩|⟨rfl,rfl⟩
         all_goals
          go_wp2;go_ret;exact⟨dA H3.o.symm,Cc.o.trans je⟩
       ·have H3:=I (H2.o (fun e=>oO (by rw [e])))
        have n1:(p.aJ !=q.aJ)=true:=by simp [oO]
        clear eL eM oO H1 H2;go_wp2;go_ret;exact⟨dA H3.o.symm,Cc.o.trans je⟩
      ·have H9:=I (mV Am.o V hE)
       clear hel iH hE;go_wp2;go_ret;refine⟨dA ?_,Cc.o.trans hb⟩;rw [eq_comm,decide_eq_true_eq];exact nF.o H9.o
    ·have HE:Hid (decide (h=h')=false):=by show _=_;rw [decide_eq_false_iff_not];rintro rfl;exact ho rfl
     have DL:=I (decide_eq_true hl);have b1:(h.aW !=h'.aW)=false:=by simp [hb]
     have b2:(h.next !=h'.next)=false:=by simp [hn]
     have b3:((h.bG.length:Int) !=h'.bG.length)=true:=by simp;omega
     clear hl hb hn ho hel iH;go_enter Tryz.func40,Tryz.ntmps40;go_wp2_with fail
     refine(HSL.o _ kH.o).mono ?_;rw [DL.o];rintro e w1 ⟨rfl,dR⟩;(obtain⟨Gn,Hg⟩:=gu dR;have uw:w.heap.size<w1:=(ω dR.size);have Ad:w.heap.size+1<w1:=(ω dR.size);have pK:=I dR;clear dR)
     go_wp2;go_ret;exact⟨dA HE.o.symm,kH.o.trans pK.o⟩
   ·have HE:Hid (decide (h=h')=false):=by show _=_;rw [decide_eq_false_iff_not];rintro rfl;exact hn rfl
    have DL:=I (decide_eq_true hl);have b1:(h.aW !=h'.aW)=false:=by simp [hb]
    have b2:(h.next !=h'.next)=true:=by simp [hn]
    clear hl hb hn hel iH;go_enter Tryz.func40,Tryz.ntmps40;go_wp2_with fail
    refine(HSL.o _ kH.o).mono ?_;rw [DL.o];rintro e w1 ⟨rfl,dR⟩;(obtain⟨Gn,Hg⟩:=gu dR;have uw:w.heap.size<w1:=(ω dR.size);have Ad:w.heap.size+1<w1:=(ω dR.size);have pK:=I dR;clear dR)
    go_wp2;go_ret;exact⟨dA HE.o.symm,kH.o.trans pK.o⟩
  ·have HE:Hid (decide (h=h')=false):=by show _=_;rw [decide_eq_false_iff_not];rintro rfl;exact hb rfl
   have DL:=I (decide_eq_true hl);have b1:(h.aW !=h'.aW)=true:=by simp [hb]
   clear hl hb hel iH;go_enter Tryz.func40,Tryz.ntmps40;go_wp2_with fail
   refine(HSL.o _ kH.o).mono ?_;rw [DL.o];rintro e w1 ⟨rfl,dR⟩;(obtain⟨Gn,Hg⟩:=gu dR;have uw:w.heap.size<w1:=(ω dR.size);have Ad:w.heap.size+1<w1:=(ω dR.size);have pK:=I dR;clear dR)
   go_wp2;go_ret;exact⟨dA HE.o.symm,kH.o.trans pK.o⟩
 ·have HE:Hid (decide (h=h')=false):=by show _=_;rw [decide_eq_false_iff_not];rintro rfl;exact hl rfl
  have DL:=I (decide_eq_false hl);clear hl hel iH;go_enter Tryz.func40,Tryz.ntmps40;go_wp2_with fail
  refine(HSL.o _ kH.o).mono ?_;rw [DL.o];rintro e w1 ⟨rfl,dR⟩;(obtain⟨Gn,Hg⟩:=gu dR;have uw:w.heap.size<w1:=(ω dR.size);have Ad:w.heap.size+1<w1:=(ω dR.size);have pK:=I dR;clear dR)
  go_wp2;go_ret;exact⟨dA HE.o.symm,kH.o.trans pK.o⟩
theorem Qi (bM:List Ms):eu bM []=bM:=by simp [eu]
theorem X5 {w:AW} (q:Quiet w):fQ w=w:=by
 have h3:jy w 3=w:=by
  unfold jy;rw [bC rfl];have:qO w.aN=[]:=by unfold qO;rw [q.bG];rfl
  rw [this,Qi]
 have hk:∀k,k≠3->jy w k=w:=fun k hk=>by
  unfold jy;rw [aV hk];cases hh:w.aI[k]? with
  |none=>rfl
  |some h=>
   have:mg h k=[]:=by unfold mg;rw [q.ready k h hh];rfl
   simp only [this,Qi]
 unfold fQ Go.Proofs.YtocnmkefmgmkbaaGreat.oJ;rw [qB q.bM,h3,qB q.bM,hk 2 V,qB q.bM,hk 1 V,qB q.bM,hk 0 V,qB q.bM]
theorem HR.low {w0 w W:World} {B:Nat} {vl vo:Value} {lg:List Rc} {L:List AQ} (b:HR w W B vl vo lg L) (h:aK w0 w):HR w0 W B vl vo lg L:=
 have hs:=h.size;⟨(b.bg.mono (kG hs)).base hs,(b.bG.mono (kG hs)).base hs,fun x Z=>(b.aZ x Z).base hs,⟨b.ok.pw,fun q O=>by have:=b.ok.lt q O;omega⟩,h.trans b.grow⟩
section
variable {w W W1 W2:World} {B:Nat} {vl vo vh vn:Value} {x:AW}
theorem iL.low {w0:World} (b:iL w W B vl vo vh vn x) (h:aK w0 w):iL w0 W B vl vo vh vn x:=
 have hs:=h.size;⟨b.row,Nat.le_trans hs b.ge,b.aN.mono (kG hs),(b.hs.mono (kG hs)).base hs,b.ne,b.bM.mono (kG hs),h.trans b.grow⟩
end
def wH:List Pt:=[⟨0,0,7⟩,⟨1,1,8⟩]
structure F12 (L:List St) (X aC:AW) (E:List Int) (K:Nat):Prop where
 l:L=[⟨1,0,wH⟩]
 x:d_ (gK 2) L=X
 e:jK (gK 2) L=E
 e1:E.length=1
 w:WK 1 X
 wy:WK 34000 aC
 i:idleA X=false
 j:idleA aC=true
 y:fD X=(aC,K)
 k:1<=K
 n:aC.aI.length=2
 r:(fQ X).aI.length=2
 a:aC.aI[0]?.map (fun h:Hs=>h.aP.a)=some 7
 b:aC.aI[1]?.map (fun h:Hs=>h.aP.b)=some 8
theorem f12:∃L x y E k,F12 L x y E k:=by
 obtain⟨G,hi,-⟩:=WI.sQ (n:=2) ε [⟨1,0,wH⟩];have hw:=WK.play (n:=2) ε [⟨1,0,wH⟩] ε;obtain⟨O,hs,-⟩:=hi.settle;have Z:idleA (d_ (gK 2) [⟨1,0,wH⟩])=false:=by kernel_rfl
 refine⟨_,d_ (gK 2) [⟨1,0,wH⟩],(fD (d_ (gK 2) [⟨1,0,wH⟩])).1,_,(fD (d_ (gK 2) [⟨1,0,wH⟩])).2,rfl,rfl,rfl,κ,hw,(hw.settle ε).up ε ε,Z,(tC hs).2 O,rfl,?_,hs.core.len,(hi.round).core.len,κ,κ⟩;have h9:fD (d_ (gK 2) [⟨1,0,wH⟩])=((gq 29 (fQ (d_ (gK 2) [⟨1,0,wH⟩]))).1,(gq 29 (fQ (d_ (gK 2) [⟨1,0,wH⟩]))).2+1):=oK 29 Z;rw [h9];exact Nat.le_add_left 1 _
theorem kY (a:Option Addr) (n c:Nat) (v0 v1 v2 v3 v5:Value) (w:World):(Instr.field 33 (.agg #[v0,v1,v2,v3,U a n c,v5]) 1).run Tryz.prog w=.ok (U a n c) w:=by kernel_rfl
theorem BQ {l:List Hs} {j:Nat} {f:Hs->Int} {n:Int} (h:l[j]?.map f=some n):∃x,l[j]? =some x/\f x=n:=by
 cases e:l[j]? with
 |none=>rw [e] at h;cases h
 |some x=>rw [e] at h;exact⟨x,rfl,bI h⟩
theorem sW (w:World):Calls Tryz.prog 32 #[] w fun e w'=>e=.returned (.bool true)/\aK w w':=by
 obtain⟨L,x,y,E,k,hF⟩:=f12;obtain⟨wp,hwp⟩:=χ (w.alloc (.cells #[J 0,J 0,J 7,J 1,J 1,J 8] 111));have uR:Sl Ty.pt wp.cell? (U (some ⟨w,0,none⟩) 2 2) wH:=Sl.lit w [[J 0,J 0,J 7],[J 1,J 1,J 8]] ε (by rw [hwp];exact aG _) rfl rfl (by show 2<=maxLen;decide) rfl ⟨⟨rfl,(show I64 0 from by unfold I64;decide),(show I64 0 from by unfold I64;decide),(show I64 7 from by unfold I64;decide)⟩,⟨rfl,(show I64 1 from by unfold I64;decide),(show I64 1 from by unfold I64;decide),(show I64 8 from by unfold I64;decide)⟩,trivial⟩;obtain⟨wl,hwl⟩:=χ (wp.alloc (.cells #[J 1,J 0,U (some ⟨w,0,none⟩) 2 2] 25));have yj:Sl Ty.st wl.cell? (U (some ⟨w+1,0,none⟩) 1 1) L:=by
  rw [hF.l];exact Sl.lit wp [[J 1,J 0,U (some ⟨w,0,none⟩) 2 2]] ε (by rw [hwl];exact aG _) (by rw [hwp];simp) rfl (by show 1<=maxLen;decide) rfl ⟨⟨_,rfl,(show I64 1 from by unfold I64;decide),(show I64 0 from by unfold I64;decide),uR⟩,trivial⟩
 have GL:Hid (aK w wl):=I (by rw [hwl,hwp];exact((aG w).alloc _).alloc _);have pU:=yP (n:=2) wl ε yj (by rw [hF.l];decide);rw [show((2:Nat):Int)=2 from rfl,hF.x,hF.e] at pU;have pU:=I pU;have HST:=I (fun(W:World) (v:Value) (N:Of Ty.wd W.cell? v x)=>kP W N hF.w ε);rw [hF.y] at HST;have NU:=I (fun(W:World) (v:Value) (N:Of Ty.wd W.cell? v x)=>mQ W N hF.w);have uW:=I (fun(W:World) (v:Value) (N:Of Ty.wd W.cell? v y)=>mQ W N hF.wy);have Yf:=I (fun(W:World) (v:Value) (N:Of Ty.wd W.cell? v x)=>ql W N hF.w ε);rw [hF.i] at NU;rw [hF.j] at uW;obtain⟨g0,h0,s0⟩:=BQ hF.a;obtain⟨g1,N,s1⟩:=BQ hF.b;have u0:(g0.aP.a==7)=true:=by rw [s0];rfl
 have u1:(g1.aP.b==8)=true:=by rw [s1];rfl
 have ue:((E.length:Int)==1)=true:=by rw [hF.e1];rfl
 have uk:decide ((1:Int)<=(k:Int))=true:=by have:=hF.k;simp;omega
 have ur:(((fQ x).aI.length:Int)==2)=true:=by rw [hF.r];rfl
 have un:(1:Int)<(y.aI.length:Int):=by rw [hF.n];decide
 have um:1<y.aI.length:=by rw [hF.n];decide
 have uo:(0:Int)<(y.aI.length:Int):=by rw [hF.n];decide
 have H0:=I h0;have H1:=I N;have HWL:=I hwl;have fX:=I hwp;clear hF h0 N s0 s1 uR yj hwl hwp;generalize fQ x=z at*;go_enter Tryz.func32,Tryz.ntmps32;go_wp2_with fail
 try rw [<-fX.o]
 try rw [<-HWL.o]
 refine pU.o.mono ?_;rintro e w2 ⟨v2,ve,rfl,pV,he2,gB⟩;obtain⟨al,cl,ao,co,ah,ch,an,cn,rfl⟩:=pV.dJ;obtain⟨ae,ce,rfl,-⟩:=he2;have AX:=I (pV.mono (fG _ _));have G2:=I (GL.o.trans gB);clear pV gB pU GL;obtain⟨w3,hwq⟩:=χ (w2.alloc (.cells #[U al x.aN.bg.length cl,J x.aN.aW,J x.aN.next,U ao x.aN.bG.length co,U ah x.aI.length ch,U an x.bM.length cn] 33));obtain⟨B1,lq⟩:=χ w2.heap.size;have AU:Hid (aK w2 w3):=I (by rw [hwq];exact(aG _).alloc _);have R1:Hid (w3.heap[B1]? =some (.cells #[U al x.aN.bg.length cl,J x.aN.aW,J x.aN.next,U ao x.aN.bG.length co,U ah x.aI.length ch,U an x.bM.length cn] 33 (0,0))):=I (by rw [hwq,lq];exact bn _ _);go_upto_region 2 with fail
 rw [<-hwq,<-lq];clear hwq lq;have Dj:=I (AX.o.mono AU.o.sub);obtain⟨a0,a1,a2,a3,a4,a5⟩:=bF R1.o;have za:B1<w3.heap.size:=(γ R1.o);go_wp2_with fail
 refine(HST.o w3 _ Dj.o).mono ?_;rintro e w4 ⟨v4,rfl,FX,qW⟩;obtain⟨N9,N_,JD,JE,Oa,ch4,Ob,Oc,rfl⟩:=FX.dJ;have N8:=I (FX.mono (fG _ _));have xM:=I qW;clear FX qW HST a0 a1 a2 a3 a4 a5 za;obtain⟨w5,hwq⟩:=χ (w4.alloc (.cells #[U N9 y.aN.bg.length N_,J y.aN.aW,J y.aN.next,U JD y.aN.bG.length JE,U Oa y.aI.length ch4,U Ob y.bM.length Oc] 33));obtain⟨B4,lq⟩:=χ w4.heap.size;have Oe:Hid (aK w4 w5):=I (by rw [hwq];exact(aG _).alloc _);have R4:Hid (w5.heap[B4]? =some (.cells #[U N9 y.aN.bg.length N_,J y.aN.aW,J y.aN.next,U JD y.aN.bG.length JE,U Oa y.aI.length ch4,U Ob y.bM.length Oc] 33 (0,0))):=I (by rw [hwq,lq];exact bn _ _);go_upto_region 3 with fail
 rw [<-hwq,<-lq];clear hwq lq;have Wj:=I (xM.o.trans Oe.o);have F5:=I (Dj.o.mono Wj.o.sub);have vD:=I (N8.o.mono Oe.o.sub);have I8:=I (aF R1.o Wj.o);obtain⟨a0,a1,a2,a3,a4,a5⟩:=bF I8.o;obtain⟨b0,b1,b2,b3,b4,b5⟩:=bF R4.o;have za:B1<w5.heap.size:=(γ I8.o);have zb:B4<w5.heap.size:=(γ R4.o);go_wp2_with fail
 refine(NU.o w5 _ F5.o).mono ?_;rintro e w6 ⟨rfl,nS⟩;have tK:=I nS;clear nS a0 a1 a2 a3 a4 a5 b0 b1 b2 b3 b4 b5 za zb;obtain⟨a0,a1,a2,a3,a4,a5⟩:=bF (aF I8.o tK.o);obtain⟨b0,b1,b2,b3,b4,b5⟩:=bF (aF R4.o tK.o);have za:B1<w6.heap.size:=(Array.getElem?_eq_some_iff.1 (aF I8.o tK.o)).1;have zb:B4<w6.heap.size:=(Array.getElem?_eq_some_iff.1 (aF R4.o tK.o)).1;go_wp2_with fail
 refine(uW.o w6 _ (vD.o.mono tK.o.sub)).mono ?_;rintro e w7 ⟨rfl,jQ⟩;have yQ:=I (tK.o.trans jQ);clear jQ a0 a1 a2 a3 a4 a5 b0 b1 b2 b3 b4 b5 za zb;obtain⟨a0,a1,a2,a3,a4,a5⟩:=bF (aF I8.o yQ.o);obtain⟨b0,b1,b2,b3,b4,b5⟩:=bF (aF R4.o yQ.o);have za:B1<w7.heap.size:=(Array.getElem?_eq_some_iff.1 (aF I8.o yQ.o)).1;have zb:B4<w7.heap.size:=(Array.getElem?_eq_some_iff.1 (aF R4.o yQ.o)).1;obtain⟨-,q2,-⟩:=vD.o.ji;obtain⟨aq,cq,heq,-,-,-,hel⟩:=q2;simp only [Value.slice.injEq] at heq;obtain⟨rfl,-,rfl⟩:=heq;obtain⟨bh,oh,cs,rfl,⟨vl9,vr9,vd9,rfl,-⟩,hA0⟩:=hel 0 g0 H0.o;obtain⟨bh',oh',cs,wG,⟨vl8,vr8,vd8,rfl,-⟩,hA1⟩:=hel 1 g1 H1.o;simp only [Option.some.injEq,Addr.mk.injEq,and_true] at wG;obtain⟨rfl,rfl⟩:=wG;have c0:=yQ.o.sub _ _ (hA0 1 _ rfl);have c1:=yQ.o.sub _ _ (hA1 2 _ rfl);have c2:w7.cell? ⟨bh,oh+1,none⟩=some (J g0.aP.a):=by simpa using c0
 have c3:w7.cell? ⟨bh,oh+7+1+1,none⟩=some (J g1.aP.b):=by simpa [show Ty.hs.size=7 from rfl] using c1
 have c4:w7.cell? ⟨bh,oh+9,none⟩=some (J g1.aP.b):=c3;clear hel hA0 hA1 c0 c1;go_wp2_with fail
 refine(Yf.o w7 _ (F5.o.mono yQ.o.sub)).mono ?_;rintro e w8 ⟨v8,rfl,vE,lD⟩;obtain⟨SS,SV,SX,SY,ah8,ch8,an8,cn8,rfl⟩:=vE.dJ;have G8:=I (G2.o.trans (AU.o.trans (Wj.o.trans (yQ.o.trans lD))));clear vE lD a0 a1 a2 a3 a4 a5 b0 b1 b2 b3 b4 b5 za zb c2 c3 c4;have hfn:=kY;go_wp2;go_ret;exact⟨rfl,G8.o⟩
theorem yg {v v':Value} {h h':Hs} (w:World) (hv:Of Ty.hs w.cell? v h) (hv':Of Ty.hs w.cell? v' h'):
  Calls Tryz.prog 25 #[v,v'] w fun e w'=>e=.returned (.bool (decide (h=h')))/\aK w w':=by
 obtain⟨al,cl,ar,cr,ad,cd,rfl⟩:=hv.ig;obtain⟨iC,iD,oD,oG,uS,uT,rfl⟩:=hv'.ig;have k:=Of.oC hv;have k':=Of.oC hv';have HSL:=I (fun(W:World) (hW:aK w W)=>tY W (k.1.mono hW.sub) (k'.1.mono hW.sub));have yD:=I (fun(W:World) (hW:aK w W)=>yc W (k.2.1.mono hW.sub) (k'.2.1.mono hW.sub));have Gv:=I (fun(W:World) (hW:aK w W)=>rD W (k.2.2.mono hW.sub) (k'.2.2.mono hW.sub));have kH:Hid (aK w ((w.alloc (.cells #[U al h.bg.length cl,J h.aP.a,J h.aP.b,J h.aP.c,J h.aP.d,U ar h.ready.length cr,U ad h.done.length cd] 50)).alloc (.cells #[U iC h'.bg.length iD,J h'.aP.a,J h'.aP.b,J h'.aP.c,J h'.aP.d,U oD h'.ready.length oG,U uS h'.done.length uT] 50))):=I (((aG w).alloc _).alloc _);clear hv hv' k k';by_cases hl:h.bg=h'.bg
 ·by_cases hs:h.aP=h'.aP
  ·by_cases hr:h.ready=h'.ready
   ·by_cases hd:h.done=h'.done
    ·have HE:Hid (decide (h=h')=true):=by show _=_;rw [decide_eq_true_eq];cases h;cases h';simp_all
     have DL:=I (decide_eq_true hl);have HQ:∀u:World,(binOp .eql 47 (.agg #[J h.aP.a,J h.aP.b,J h.aP.c,J h.aP.d]) (.agg #[J h'.aP.a,J h'.aP.b,J h'.aP.c,J h'.aP.d])).run Tryz.prog u=.ok (.bool true) u:=fun u=>by rw [wR,decide_eq_true hs]
     have hg:=oN;have DR:=I (decide_eq_true hr);have DD:=I (decide_eq_true hd);clear hl hs hr hd;go_enter Tryz.func25,Tryz.ntmps25;go_wp2_with fail
     refine(HSL.o _ kH.o).mono ?_;rw [DL.o];rintro e w1 ⟨rfl,dR⟩;(obtain⟨Gn,Hg⟩:=gu dR;have uw:w.heap.size<w1:=(ω dR.size);have Ad:w.heap.size+1<w1:=(ω dR.size);have pK:=I dR;clear dR)
     go_wp2_with fail
     refine(yD.o _ (kH.o.trans pK.o)).mono ?_;rw [DR.o];rintro e w2 ⟨rfl,iq⟩;(obtain⟨Ym,Yn⟩:=gu iq;have JJ:w.heap.size<w2:=(ω iq.size);have NR:w.heap.size+1<w2:=(ω iq.size);have Dn:=I iq;clear iq)
     go_wp2_with fail
     refine(Gv.o _ ((kH.o.trans pK.o).trans Dn.o)).mono ?_;rw [DD.o];rintro e w3 ⟨rfl,kZ⟩;(obtain⟨cw3,fw3⟩:=gu kZ;have X0:w.heap.size<w3:=(ω kZ.size);have X3:w.heap.size+1<w3:=(ω kZ.size);have X4:=I kZ;clear kZ)
     go_wp2;go_ret;exact⟨dA HE.o.symm,(((kH.o.trans pK.o).trans Dn.o).trans X4.o)⟩
    ·have HE:Hid (decide (h=h')=false):=by show _=_;rw [decide_eq_false_iff_not];rintro rfl;exact hd rfl
     have DL:=I (decide_eq_true hl);have HQ:∀u:World,(binOp .eql 47 (.agg #[J h.aP.a,J h.aP.b,J h.aP.c,J h.aP.d]) (.agg #[J h'.aP.a,J h'.aP.b,J h'.aP.c,J h'.aP.d])).run Tryz.prog u=.ok (.bool true) u:=fun u=>by rw [wR,decide_eq_true hs]
     have hg:=oN;have DR:=I (decide_eq_true hr);have DD:=I (decide_eq_false hd);clear hl hs hr hd;go_enter Tryz.func25,Tryz.ntmps25;go_wp2_with fail
     refine(HSL.o _ kH.o).mono ?_;rw [DL.o];rintro e w1 ⟨rfl,dR⟩;(obtain⟨Gn,Hg⟩:=gu dR;have uw:w.heap.size<w1:=(ω dR.size);have Ad:w.heap.size+1<w1:=(ω dR.size);have pK:=I dR;clear dR)
     go_wp2_with fail
     refine(yD.o _ (kH.o.trans pK.o)).mono ?_;rw [DR.o];rintro e w2 ⟨rfl,iq⟩;(obtain⟨Ym,Yn⟩:=gu iq;have JJ:w.heap.size<w2:=(ω iq.size);have NR:w.heap.size+1<w2:=(ω iq.size);have Dn:=I iq;clear iq)
     go_wp2_with fail
     refine(Gv.o _ ((kH.o.trans pK.o).trans Dn.o)).mono ?_;rw [DD.o];rintro e w3 ⟨rfl,kZ⟩;(obtain⟨cw3,fw3⟩:=gu kZ;have X0:w.heap.size<w3:=(ω kZ.size);have X3:w.heap.size+1<w3:=(ω kZ.size);have X4:=I kZ;clear kZ)
     go_wp2;go_ret;exact⟨dA HE.o.symm,(((kH.o.trans pK.o).trans Dn.o).trans X4.o)⟩
   ·have HE:Hid (decide (h=h')=false):=by show _=_;rw [decide_eq_false_iff_not];rintro rfl;exact hr rfl
    have DL:=I (decide_eq_true hl);have HQ:∀u:World,(binOp .eql 47 (.agg #[J h.aP.a,J h.aP.b,J h.aP.c,J h.aP.d]) (.agg #[J h'.aP.a,J h'.aP.b,J h'.aP.c,J h'.aP.d])).run Tryz.prog u=.ok (.bool true) u:=fun u=>by rw [wR,decide_eq_true hs]
    have hg:=oN;have DR:=I (decide_eq_false hr);clear hl hs hr;go_enter Tryz.func25,Tryz.ntmps25;go_wp2_with fail
    refine(HSL.o _ kH.o).mono ?_;rw [DL.o];rintro e w1 ⟨rfl,dR⟩;(obtain⟨Gn,Hg⟩:=gu dR;have uw:w.heap.size<w1:=(ω dR.size);have Ad:w.heap.size+1<w1:=(ω dR.size);have pK:=I dR;clear dR)
    go_wp2_with fail
    refine(yD.o _ (kH.o.trans pK.o)).mono ?_;rw [DR.o];rintro e w2 ⟨rfl,iq⟩;(obtain⟨Ym,Yn⟩:=gu iq;have JJ:w.heap.size<w2:=(ω iq.size);have NR:w.heap.size+1<w2:=(ω iq.size);have Dn:=I iq;clear iq)
    go_wp2;go_ret;exact⟨dA HE.o.symm,((kH.o.trans pK.o).trans Dn.o)⟩
  ·have HE:Hid (decide (h=h')=false):=by show _=_;rw [decide_eq_false_iff_not];rintro rfl;exact hs rfl
   have DL:=I (decide_eq_true hl);have HQ:∀u:World,(binOp .eql 47 (.agg #[J h.aP.a,J h.aP.b,J h.aP.c,J h.aP.d]) (.agg #[J h'.aP.a,J h'.aP.b,J h'.aP.c,J h'.aP.d])).run Tryz.prog u=.ok (.bool false) u:=fun u=>by rw [wR,decide_eq_false hs]
   have hg:=oN;clear hl hs;go_enter Tryz.func25,Tryz.ntmps25;go_wp2_with fail
   refine(HSL.o _ kH.o).mono ?_;rw [DL.o];rintro e w1 ⟨rfl,dR⟩;(obtain⟨Gn,Hg⟩:=gu dR;have uw:w.heap.size<w1:=(ω dR.size);have Ad:w.heap.size+1<w1:=(ω dR.size);have pK:=I dR;clear dR)
   go_wp2;go_ret;exact⟨dA HE.o.symm,(kH.o.trans pK.o)⟩
 ·have HE:Hid (decide (h=h')=false):=by show _=_;rw [decide_eq_false_iff_not];rintro rfl;exact hl rfl
  have DL:=I (decide_eq_false hl);clear hl;go_enter Tryz.func25,Tryz.ntmps25;go_wp2_with fail
  refine(HSL.o _ kH.o).mono ?_;rw [DL.o];rintro e w1 ⟨rfl,dR⟩;(obtain⟨Gn,Hg⟩:=gu dR;have uw:w.heap.size<w1:=(ω dR.size);have Ad:w.heap.size+1<w1:=(ω dR.size);have pK:=I dR;clear dR)
  go_wp2;go_ret;exact⟨dA HE.o.symm,(kH.o.trans pK.o)⟩
theorem lT {v v':Value} {x:AW} (w:World) (hv:Of Ty.wd w.cell? v x) (hv':Of Ty.wd w.cell? v' x) (h3:x.aI.length<=3):
  Calls Tryz.prog 13 #[v,v'] w fun e w'=>e=.returned (.bool true)/\aK w w':=by
 obtain⟨al,cl,ao,co,ah,ch,an,cn,rfl⟩:=hv.dJ;obtain⟨iC,iD,lY,lZ,Nq,IY,OL,OM,rfl⟩:=hv'.dJ;obtain⟨q1,q2,q3⟩:=hv.ji;obtain⟨u1,u2,u3⟩:=hv'.ji;have HSH:=I (fun(W:World) (hW:aK w W)=>Ac W (q1.mono hW.sub) (u1.mono hW.sub));have KM:=I (fun(W:World) (hW:aK w W)=>Cb W (q3.mono hW.sub) (u3.mono hW.sub));obtain⟨AN,ch',he,N,Y,-,hel⟩:=q2;obtain⟨rfl,rfl⟩:ah=AN/\ch=ch':=by simpa using he
 obtain⟨Vo,ch3,he',h1',h2',-,iH⟩:=u2;obtain⟨rfl,rfl⟩:Nq=Vo/\IY=ch3:=by simpa using he'
 unfold maxLen at Y h2';clear hv hv' q1 q3 u1 u3 he he';have nH:=I hel;have A0P:=I iH;clear hel iH;obtain⟨wa,fZ⟩:=χ (w.alloc (.cells #[U al x.aN.bg.length cl,J x.aN.aW,J x.aN.next,U ao x.aN.bG.length co,U ah x.aI.length ch,U an x.bM.length cn] 33));obtain⟨wz,hwz⟩:=χ (wa.alloc (.cells #[U iC x.aN.bg.length iD,J x.aN.aW,J x.aN.next,U lY x.aN.bG.length lZ,U Nq x.aI.length IY,U OL x.bM.length OM] 33));have hsz:wa.heap.size=w.heap.size+1:=by rw [fZ];simp
 have R1:Hid (wz.heap[w.heap.size]? =some (.cells #[U al x.aN.bg.length cl,J x.aN.aW,J x.aN.next,U ao x.aN.bG.length co,U ah x.aI.length ch,U an x.bM.length cn] 33 (0,0))):=I (by rw [hwz,fZ];exact bQ (bn _ _) _);have R2:Hid (wz.heap[w.heap.size+1]? =some (.cells #[U iC x.aN.bg.length iD,J x.aN.aW,J x.aN.next,U lY x.aN.bG.length lZ,U Nq x.aI.length IY,U OL x.bM.length OM] 33 (0,0))):=I (by rw [hwz,<-hsz];exact bn _ _);have G1:Hid (aK w wz):=I (by rw [hwz,fZ];exact((aG w).alloc _).alloc _);go_enter Tryz.func13,Tryz.ntmps13;go_upto_region 1 with fail
 rw [<-fZ];try rw [hsz]
 rw [<-hwz];clear fZ hwz hsz;obtain⟨x1,x2,x3,x4,x5,x6⟩:=bF R1.o;obtain⟨y1,y2,y3,y4,y5,y6⟩:=bF R2.o;have zX:w.heap.size+1<wz:=(γ R2.o);have DH:Hid (decide (x.aN=x.aN)=true):=I σ;have DN:Hid (decide (x.bM.map dh=x.bM.map dh)=true):=I σ;go_wp2_with fail
 refine(HSH.o _ G1.o).mono ?_;rw [DH.o];rintro e w1 ⟨rfl,dZ⟩;have R11:=I (aF R1.o dZ);have SN:=I (aF R2.o dZ);have G2:=I (G1.o.trans dZ);clear x1 x2 x3 x4 x5 x6 y1 y2 y3 y4 y5 y6 zX dZ;obtain⟨x1,x2,x3,x4,x5,x6⟩:=bF R11.o;obtain⟨y1,y2,y3,y4,y5,y6⟩:=bF SN.o;have zX:w.heap.size+1<w1:=(γ SN.o);go_wp2_with fail
 refine(KM.o _ G2.o).mono ?_;rw [DN.o];rintro e w2 ⟨rfl,gB⟩;have Qa:=I (aF R11.o gB);have Gu:=I (aF SN.o gB);have G3:=I (G2.o.trans gB);clear x1 x2 x3 x4 x5 x6 y1 y2 y3 y4 y5 y6 zX gB;obtain⟨x1,x2,x3,x4,x5,x6⟩:=bF Qa.o;obtain⟨y1,y2,y3,y4,y5,y6⟩:=bF Gu.o;have zX:w.heap.size+1<w2:=(γ Gu.o);have tl:((x.aI.length:Int) !=(x.aI.length:Int))=false:=by simp
 go_wp2;clear x1 x2 x3 x4 x5 x6 y1 y2 y3 y4 y5 y6 zX;go_loopw [32] (fun i wr=>∃k:Nat,k<=x.aI.length/\i=J k/\aK w2 wr) (fun i _=>x.aI.length - (intOf i).toNat)
 case atStart=>exact⟨0,V,rfl,aG _⟩
 case round=>
  obtain⟨k,hk',rfl,hgr⟩:=hrel;have Fj:=I hgr;have GR:=I (G3.o.trans hgr);clear hgr;by_cases hlt:k<x.aI.length
  ·obtain⟨b,o,vl,vr,vd,rfl,e0,e1,e2,e3,e4,e5,e6,yu,i1,i2,i3,i4,Ar,xk⟩:=VW.at_ nH.o k hlt
   obtain⟨b2,o2,vl2,vr2,vd2,rfl,f0,f1,f2,f3,f4,f5,f6,kH1,-,-,-,-,kH2,kH3⟩:=VW.at_ A0P.o k hlt;obtain⟨KV,K0,rfl,-⟩:=id yu;obtain⟨K4,K5,rfl,-⟩:=id Ar;obtain⟨id1,K6,rfl,-⟩:=id xk;obtain⟨RU,RV,rfl,-⟩:=id kH1;obtain⟨R_,Si,rfl,-⟩:=id kH2;obtain⟨id2,Sj,rfl,-⟩:=id kH3;have HSE:=I (fun(W:World) (hW:aK w W)=>yg W (v:=.agg #[.slice KV x.aI[k].bg.length K0,J x.aI[k].aP.a,J x.aI[k].aP.b,J x.aI[k].aP.c,J x.aI[k].aP.d,.slice K4 x.aI[k].ready.length K5,.slice id1 x.aI[k].done.length K6]) (v':=.agg #[.slice RU x.aI[k].bg.length RV,J x.aI[k].aP.a,J x.aI[k].aP.b,J x.aI[k].aP.c,J x.aI[k].aP.d,.slice R_ x.aI[k].ready.length Si,.slice id2 x.aI[k].done.length Sj]) (h:=x.aI[k]) (h':=x.aI[k]) ((show Of Ty.hs w.cell? (.agg #[.slice KV x.aI[k].bg.length K0,J x.aI[k].aP.a,J x.aI[k].aP.b,J x.aI[k].aP.c,J x.aI[k].aP.d,.slice K4 x.aI[k].ready.length K5,.slice id1 x.aI[k].done.length K6]) x.aI[k] from⟨_,rfl,_,_,_,rfl,yu,i1,i2,i3,i4,Ar,xk⟩).mono hW.sub) ((show Of Ty.hs w.cell? (.agg #[.slice RU x.aI[k].bg.length RV,J x.aI[k].aP.a,J x.aI[k].aP.b,J x.aI[k].aP.c,J x.aI[k].aP.d,.slice R_ x.aI[k].ready.length Si,.slice id2 x.aI[k].done.length Sj]) x.aI[k] from⟨_,rfl,_,_,_,rfl,kH1,i1,i2,i3,i4,kH2,kH3⟩).mono hW.sub));have DE:Hid (decide (x.aI[k]=x.aI[k])=true):=I σ;clear yu Ar xk kH1 kH2 kH3 i1 i2 i3 i4;generalize x.aI[k]=h at*;have HE:=I (And.intro e0 (And.intro e1 (And.intro e2 (And.intro e3 (And.intro e4 (And.intro e5 e6))))));have HF:=I (And.intro f0 (And.intro f1 (And.intro f2 (And.intro f3 (And.intro f4 (And.intro f5 f6))))));clear e0 e1 e2 e3 e4 e5 e6 f0 f1 f2 f3 f4 f5 f6;go_upto_region 6 with fail
   have HS:Hid (∀W,aK wr W->W.cell? ⟨w,4,none⟩=some (U (some ⟨b,o,none⟩) x.aI.length ch)/\W.cell? ⟨w+1,4,none⟩=some (U (some ⟨b2,o2,none⟩) x.aI.length IY)/\W.cell? ⟨b,o+k*7,none⟩=some (U KV h.bg.length K0)/\W.cell? ⟨b,o+k*7+1,none⟩=some (J h.aP.a)/\W.cell? ⟨b,o+k*7+2,none⟩=some (J h.aP.b)/\W.cell? ⟨b,o+k*7+3,none⟩=some (J h.aP.c)/\W.cell? ⟨b,o+k*7+4,none⟩=some (J h.aP.d)/\W.cell? ⟨b,o+k*7+5,none⟩=some (U K4 h.ready.length K5)/\W.cell? ⟨b,o+k*7+6,none⟩=some (U id1 h.done.length K6)/\W.cell? ⟨b2,o2+k*7,none⟩=some (U RU h.bg.length RV)/\W.cell? ⟨b2,o2+k*7+1,none⟩=some (J h.aP.a)/\W.cell? ⟨b2,o2+k*7+2,none⟩=some (J h.aP.b)/\W.cell? ⟨b2,o2+k*7+3,none⟩=some (J h.aP.c)/\W.cell? ⟨b2,o2+k*7+4,none⟩=some (J h.aP.d)/\W.cell? ⟨b2,o2+k*7+5,none⟩=some (U R_ h.ready.length Si)/\W.cell? ⟨b2,o2+k*7+6,none⟩=some (U id2 h.done.length Sj)):=fun W hW=>by
    have hs:=(GR.o.trans hW).sub;obtain⟨e0,e1,e2,e3,e4,e5,e6⟩:=HE.o;obtain⟨f0,f1,f2,f3,f4,f5,f6⟩:=HF.o;obtain⟨-,-,-,-,x5,-⟩:=bF (aF Qa.o (Fj.o.trans hW));obtain⟨-,-,-,-,y5,-⟩:=bF (aF Gu.o (Fj.o.trans hW));exact⟨x5,y5,hs _ _ e0,hs _ _ e1,hs _ _ e2,hs _ _ e3,hs _ _ e4,hs _ _ e5,hs _ _ e6,hs _ _ f0,hs _ _ f1,hs _ _ f2,hs _ _ f3,hs _ _ f4,hs _ _ f5,hs _ _ f6⟩
   refine Gq (fun w'=>w'.cell? ⟨w,4,none⟩=some (U (some ⟨b,o,none⟩) x.aI.length ch)/\w'.cell? ⟨w+1,4,none⟩=some (U (some ⟨b2,o2,none⟩) x.aI.length IY)/\w'.cell? ⟨b,o+k*7,none⟩=some (U KV h.bg.length K0)/\w'.cell? ⟨b,o+k*7+1,none⟩=some (J h.aP.a)/\w'.cell? ⟨b,o+k*7+2,none⟩=some (J h.aP.b)/\w'.cell? ⟨b,o+k*7+3,none⟩=some (J h.aP.c)/\w'.cell? ⟨b,o+k*7+4,none⟩=some (J h.aP.d)/\w'.cell? ⟨b,o+k*7+5,none⟩=some (U K4 h.ready.length K5)/\w'.cell? ⟨b,o+k*7+6,none⟩=some (U id1 h.done.length K6)/\w'.cell? ⟨b2,o2+k*7,none⟩=some (U RU h.bg.length RV)/\w'.cell? ⟨b2,o2+k*7+1,none⟩=some (J h.aP.a)/\w'.cell? ⟨b2,o2+k*7+2,none⟩=some (J h.aP.b)/\w'.cell? ⟨b2,o2+k*7+3,none⟩=some (J h.aP.c)/\w'.cell? ⟨b2,o2+k*7+4,none⟩=some (J h.aP.d)/\w'.cell? ⟨b2,o2+k*7+5,none⟩=some (U R_ h.ready.length Si)/\w'.cell? ⟨b2,o2+k*7+6,none⟩=some (U id2 h.done.length Sj)) [] κ ?_;intro wd GD zD;clear zD;refine pF [0,1,2,3,4,5,6,7,8,9] 14 κ (fun _ _ _ _ _ h=>h) (HS.o _ GD) ?_;repeat (refine jm ?_;try simp only [bT])
   refine pG ?_;refine kS 10 κ rfl ?_;intro K M;try simp only [dD]
   go_simp;go_at_call 25
   refine(HSE.o _ (GR.o.trans GD)).mono ?_;rw [DE.o];rintro e w5 ⟨rfl,iY⟩;have G5:=I (aK.trans GD iY);clear iY;refine ψ M (.inr (HS.o _ G5.o)) ?_;try simp only [bT]
   refine pF [11] 14 κ (fun _ _ _ _ _ h=>h) (HS.o _ G5.o) ?_;repeat (refine jm ?_;try simp only [bT])
   refine pG ?_;refine Bf κ ?_;go_wp2;go_roundw
   case rel=>exact⟨k+1,V,by go_num,Fj.o.trans G5.o⟩
   case measure=>simp [intOf];omega
  ·obtain rfl:k=x.aI.length:=by omega
   go_wp2;go_ret;exact⟨rfl,GR.o⟩
theorem OV {n0:Int} {v:Value} {l:List St} (w:World) (_hn:I64 n0) (hv:Sl Ty.st w.cell? v l) (_hs:l.length*40<=140737488351232):
  Calls Tryz.prog 9 #[J n0,v] w fun e w'=>e=.returned (.bool true)/\aK w w':=by
 obtain⟨av,cv,rfl,-⟩:=id hv;by_cases hin:1<=n0/\n0<=3;rotate_left
 ·have t:(decide (n0<1)=true∨(decide (n0<1)=false/\decide (3<n0)=true)):=by
   by_cases h:n0<1
   ·left;simp [h]
   ·right;simp;omega
  clear hv hin;go_enter Tryz.func9,Tryz.ntmps9;go_wp2_with fail
  refine(sW _).mono ?_;rintro e w1 ⟨rfl,dZ⟩;rcases t with t|⟨t1,t2⟩
  all_goals
   go_wp2;go_ret;exact⟨rfl,dZ⟩
 obtain⟨n,rfl⟩:∃n:Nat,n0=(n:Int):=⟨n0.toNat,V⟩;have hn:1<=n/\n<=3:=by omega
 have tn1:decide ((n:Int)<1)=false:=by simp;omega
 have tn3:decide ((3:Int)<(n:Int))=false:=by simp;omega
 obtain⟨G,hwi,-⟩:=WI.sQ hn (l.take 150);have YZ:(l.take 150).length<=150:=by rw [List.length_take];omega
 have hwk:=(WK.play hn (l.take 150) V).up (k':=150) YZ ε;obtain⟨v_,XV,hsn⟩:=hwi.settle;have hwy:=(hwk.settle ε).up (k':=33150) ε ε;have pU:=I (fun(W:World) (hW:aK w W)=>BJ (l:=l) W hn (hv.mono hW.sub));have HST:=I (fun(W:World) (v:Value) (N:Of Ty.wd W.cell? v (d_ (gK n) (l.take 150)))=>kP W N hwk ε);have HY3:=I hwy.I5.2;have Gl:Hid (∀(W:World) (v:Value),Of Ty.wd W.cell? v (fD (d_ (gK n) (l.take 150))).1->Calls Tryz.prog 31 #[v] W fun e w'=>∃v',e=.returned (.tuple #[v',J 0])/\Of Ty.wd (ov (fun _=>none) W w') v' (fD (d_ (gK n) (l.take 150))).1/\aK W w'):=I (fun W v N=>by
  have h:=kP W N hwy ε;rw [show fD (fD (d_ (gK n) (l.take 150))).1=((fD (d_ (gK n) (l.take 150))).1,0) from Bv XV v_ 30] at h;exact h)
 have HRN:Hid (∀(W:World) (v:Value),Of Ty.wd W.cell? v (fD (d_ (gK n) (l.take 150))).1->Calls Tryz.prog 27 #[v] W fun e w'=>∃v',e=.returned v'/\Of Ty.wd (ov (fun _=>none) W w') v' (fD (d_ (gK n) (l.take 150))).1/\aK W w'):=I (fun W v N=>by
  have h:=ql W N hwy ε;rw [X5 v_] at h;exact h)
 clear hv hin hn hwi hwk YZ v_ XV hwy;generalize d_ (gK n) (l.take 150)=x at*;generalize fD x=sx at*;obtain⟨y,ks⟩:=sx;dsimp only at*;go_enter Tryz.func9,Tryz.ntmps9;go_wp2_with fail
 refine(sW _).mono ?_;rintro e w1 ⟨rfl,dZ⟩;have G1:=I dZ;clear dZ;go_wp2_with fail
 refine(pU.o _ G1.o).mono ?_;rintro e w2 ⟨v2,es2,rfl,pV,-,gB⟩;obtain⟨al,cl,ao,co,ah,ch,an,cn,rfl⟩:=pV.dJ;have AX:=I pV;have G2:=I (G1.o.trans gB);clear pV gB pU tn1 tn3;obtain⟨w3,hwq⟩:=χ (w2.alloc (.cells #[U al x.aN.bg.length cl,J x.aN.aW,J x.aN.next,U ao x.aN.bG.length co,U ah x.aI.length ch,U an x.bM.length cn] 33));obtain⟨B5,lq⟩:=χ w2.heap.size;have AU:Hid (aK w2 w3):=I (by rw [hwq];exact(aG _).alloc _);have R5:Hid (w3.heap[B5]? =some (.cells #[U al x.aN.bg.length cl,J x.aN.aW,J x.aN.next,U ao x.aN.bG.length co,U ah x.aI.length ch,U an x.bM.length cn] 33 (0,0))):=I (by rw [hwq,lq];exact bn _ _);go_upto_region 6 with fail
 rw [<-hwq,<-lq];clear hwq lq;obtain⟨a0,a1,a2,a3,a4,a5⟩:=bF R5.o;have za:B5<w3.heap.size:=(γ R5.o);go_wp2_with fail
 refine(HST.o w3 _ (AX.o.mono AU.o.sub)).mono ?_;rintro e w4 ⟨v4,rfl,FX,qW⟩;obtain⟨N9,N_,JD,JE,Oa,ch4,Ob,Oc,rfl⟩:=FX.dJ;have N8:=I (FX.mono (fG _ _));have xM:=I (G2.o.trans (AU.o.trans qW));clear FX qW HST a0 a1 a2 a3 a4 a5 za AX R5;obtain⟨w5,hwq⟩:=χ (w4.alloc (.cells #[U N9 y.aN.bg.length N_,J y.aN.aW,J y.aN.next,U JD y.aN.bG.length JE,U Oa y.aI.length ch4,U Ob y.bM.length Oc] 33));obtain⟨B7,lq⟩:=χ w4.heap.size;have Oe:Hid (aK w4 w5):=I (by rw [hwq];exact(aG _).alloc _);have R7:Hid (w5.heap[B7]? =some (.cells #[U N9 y.aN.bg.length N_,J y.aN.aW,J y.aN.next,U JD y.aN.bG.length JE,U Oa y.aI.length ch4,U Ob y.bM.length Oc] 33 (0,0))):=I (by rw [hwq,lq];exact bn _ _);go_upto_region 7 with fail
 rw [<-hwq,<-lq];clear hwq lq;have H7:=I (N8.o.mono Oe.o.sub);have GB:=I (xM.o.trans Oe.o);obtain⟨a0,a1,a2,a3,a4,a5⟩:=bF R7.o;have za:B7<w5.heap.size:=(γ R7.o);clear N8;go_wp2_with fail
 refine(Gl.o w5 _ H7.o).mono ?_;rintro e w6 ⟨v6,rfl,hx6,nS⟩;obtain⟨tQ,tR,tS,tT,XM,ch6,tU,tW,rfl⟩:=hx6.dJ;have KB:=I (hx6.mono (fG _ _));have tK:=I nS;clear hx6 nS a0 a1 a2 a3 a4 a5 za Gl;obtain⟨w7,hwq⟩:=χ (w6.alloc (.cells #[U tQ y.aN.bg.length tR,J y.aN.aW,J y.aN.next,U tS y.aN.bG.length tT,U XM y.aI.length ch6,U tU y.bM.length tW] 33));obtain⟨B9,lq⟩:=χ w6.heap.size;have G67:Hid (aK w6 w7):=I (by rw [hwq];exact(aG _).alloc _);have R9:Hid (w7.heap[B9]? =some (.cells #[U tQ y.aN.bg.length tR,J y.aN.aW,J y.aN.next,U tS y.aN.bG.length tT,U XM y.aI.length ch6,U tU y.bM.length tW] 33 (0,0))):=I (by rw [hwq,lq];exact bn _ _);go_upto_region 8 with fail
 rw [<-hwq,<-lq];clear hwq lq;have yQ:=I (tK.o.trans G67.o);have HA:=I (H7.o.mono yQ.o.sub);have HB:=I (KB.o.mono G67.o.sub);have sP:=I (aF R7.o yQ.o);have HS:Hid (∀W,aK w7 W->W.cell? ⟨B7,0,none⟩=some (U N9 y.aN.bg.length N_)/\W.cell? ⟨B7,1,none⟩=some (J y.aN.aW)/\W.cell? ⟨B7,2,none⟩=some (J y.aN.next)/\W.cell? ⟨B7,3,none⟩=some (U JD y.aN.bG.length JE)/\W.cell? ⟨B7,4,none⟩=some (U Oa y.aI.length ch4)/\W.cell? ⟨B7,5,none⟩=some (U Ob y.bM.length Oc)/\W.cell? ⟨B9,0,none⟩=some (U tQ y.aN.bg.length tR)/\W.cell? ⟨B9,1,none⟩=some (J y.aN.aW)/\W.cell? ⟨B9,2,none⟩=some (J y.aN.next)/\W.cell? ⟨B9,3,none⟩=some (U tS y.aN.bG.length tT)/\W.cell? ⟨B9,4,none⟩=some (U XM y.aI.length ch6)/\W.cell? ⟨B9,5,none⟩=some (U tU y.bM.length tW)):=fun W hW=>by
  obtain⟨a0,a1,a2,a3,a4,a5⟩:=bF (aF sP.o hW);obtain⟨b0,b1,b2,b3,b4,b5⟩:=bF (aF R9.o hW);exact⟨a0,a1,a2,a3,a4,a5,b0,b1,b2,b3,b4,b5⟩
 refine Gq (fun w'=>w'.cell? ⟨B7,0,none⟩=some (U N9 y.aN.bg.length N_)/\w'.cell? ⟨B7,1,none⟩=some (J y.aN.aW)/\w'.cell? ⟨B7,2,none⟩=some (J y.aN.next)/\w'.cell? ⟨B7,3,none⟩=some (U JD y.aN.bG.length JE)/\w'.cell? ⟨B7,4,none⟩=some (U Oa y.aI.length ch4)/\w'.cell? ⟨B7,5,none⟩=some (U Ob y.bM.length Oc)/\w'.cell? ⟨B9,0,none⟩=some (U tQ y.aN.bg.length tR)/\w'.cell? ⟨B9,1,none⟩=some (J y.aN.aW)/\w'.cell? ⟨B9,2,none⟩=some (J y.aN.next)/\w'.cell? ⟨B9,3,none⟩=some (U tS y.aN.bG.length tT)/\w'.cell? ⟨B9,4,none⟩=some (U XM y.aI.length ch6)/\w'.cell? ⟨B9,5,none⟩=some (U tU y.bM.length tW)) [] κ ?_;intro wd GD zD;clear zD;refine pF [0,1,2,3,4] 16 κ (fun _ _ _ _ _ h=>h) (HS.o _ GD) ?_;repeat (refine jm ?_;try simp only [bT])
 refine pG ?_;refine kS 5 κ rfl ?_;intro K M;refine qc ρ ?_;try simp only [dD]
 go_simp;go_at_call 13
 refine(lT _ (HA.o.mono (aK.sub GD)) (HB.o.mono (aK.sub GD)) HY3.o).mono ?_;rintro eP wP ⟨rfl,hbP⟩;have GP:=I (aK.trans GD hbP);clear hbP;refine ψ M (.inr (HS.o _ GP.o)) ?_;try simp only [bT]
 refine pF [6,7,8,10] 16 κ (fun _ _ _ _ _ h=>h) (HS.o _ GP.o) ?_;repeat (refine jm ?_;try simp only [bT])
 refine pG ?_;refine kS 9 κ rfl ?_;intro K M;refine qc ρ ?_;try simp only [dD]
 go_simp;go_at_call 27
 refine(HRN.o _ _ (HA.o.mono (aK.sub GP.o))).mono ?_;rintro eo wo ⟨vo,rfl,hxo,yW⟩;obtain⟨alo,clo,aoo,coo,aho,cho,ano,cno,rfl⟩:=hxo.dJ;have HXO:=I (hxo.mono (fG _ _));have Go:=I (aK.trans GP.o yW);clear hxo yW;refine ψ M (.inr (HS.o _ Go.o)) ?_;try simp only [bT]
 refine kS 11 κ rfl ?_;intro K M;refine qc ρ ?_;try simp only [dD]
 go_simp;go_at_call 13
 refine(lT _ HXO.o (HA.o.mono (aK.sub Go.o)) HY3.o).mono ?_;rintro eQ wQ ⟨rfl,hbQ⟩;have GQ:=I (aK.trans Go.o hbQ);clear hbQ;refine ψ M (.inr (HS.o _ GQ.o)) ?_;try simp only [bT]
 refine pF [12,13] 16 κ (fun _ _ _ _ _ h=>h) (HS.o _ GQ.o) ?_;repeat (refine jm ?_;try simp only [bT])
 refine pG ?_;refine Bf κ ?_;go_wp2;go_ret;exact⟨rfl,GB.o.trans (yQ.o.trans GQ.o)⟩
end Go.Proofs.YtocnmkefmgmkbaaGreat
namespace Go.Proofs.YtocnmkefmgmkbaaGreat
open Go.RowKit Go.ChangeShapes Go.WideShapes Go.ChangeAt
def Reads {α:Type} (P:Program) (t:TypeId) (T:Ty α):Prop:=∀(H:Type) (enc:TypeId×Value->H) (W:World) (fuel:Nat) (cs:List Value) (x:DataW H×List MemPlace),
 DataW.trod enc P W 0 (fun _=>true) true fuel t cs=some x->∃y,T.R W.cell? cs y
theorem gY {P:Program} {t:TypeId} (ht:P.underlying t=some (.int .i64)):Reads P t Ty.int:=by
 intro H enc W fuel cs x h;obtain⟨n,rfl,_,hw⟩:=DataW.trod_int ht h;exact⟨n,rfl,hw⟩
theorem oL {α:Type} {P:Program} {t e:TypeId} {T:Ty α} (hR:Reads P e T) (ht:P.underlying t=some (.slice e)) (hc:P.cellsOf e=T.size) (h0:0<T.size):Reads P t T.sl:=by
 intro H enc W fuel cs x h;rcases Deep.open_slice ht h with⟨rfl,_⟩|⟨a,len,cap,m,n,D,Pl,rfl,_,hl,hm,hmm,hxe,Z⟩
 ·exact⟨[],_,rfl,none,0,rfl,Nat.le_refl _,Nat.zero_le _,fun _=>rfl,fun i x e=>by simp at e⟩
 ·simp only [if_true] at hmm
  subst m;have Y:∀i,i<len->∃(p:List Value×α),T.R W.cell? p.1 p.2/\W.cells? 0 (a.add (i*T.size)) T.size=some p.1:=by
   intro i hi;obtain⟨cs',N,Y⟩:=Z i V;obtain⟨y,hy⟩:=hR H enc W n cs' _ Y;rw [hc] at N;exact⟨(cs',y),hy,N⟩
  have h3:∃l:List α,l.length=len/\∀i y,l[i]? =some y->∃cs',T.R W.cell? cs' y/\W.cells? 0 (a.add (i*T.size)) T.size=some cs':=by
   clear Z hl h hxe;induction len with
   |zero=>exact⟨[],rfl,σ⟩
   |succ len ih=>
    obtain⟨l,hl,hi⟩:=ih (by intro i hi;exact Y i V);obtain⟨⟨cs',y⟩,hy,N⟩:=Y len V;refine⟨l++ [y],by simp [hl],fun i z hz=>?_⟩;rcases Nat.lt_or_ge i l.length with hlt|hge
    ·rw [List.getElem?_append_left hlt] at hz;exact hi i z hz
    ·have hb:=(List.getElem?_eq_some_iff.1 hz).1
     simp at hb;obtain rfl:i=len:=by omega
     rw [List.getElem?_append_right hge,hl] at hz;simp at hz;subst hz;exact⟨cs',hy,N⟩
  obtain⟨l,hlen,hl2⟩:=h3;refine⟨l,_,rfl,some a,cap,by rw [hlen],V,hm,σ,fun i y hy=>?_⟩;obtain⟨cs',hR',hcs⟩:=hl2 i y hy;obtain⟨_,hlen',hat⟩:=World.cells?_some hcs;have hpos:0<l.length:=by have:=(List.getElem?_eq_some_iff.1 hy).1;omega
  obtain⟨cs0,_,hcs0⟩:=hl2 0 l[0] (dM hpos);obtain⟨_,hlen0,XW⟩:=World.cells?_some hcs0;have hfirst:=XW 0 h0;rw [dM V] at hfirst;have hsp:=World.cell?_spot hfirst;obtain⟨b,o,s⟩:=a;have hs:s=none:=by simpa [Addr.add] using hsp
  subst hs;refine⟨b,o,cs',rfl,hR',fun j u hu=>?_⟩;have hj:j<T.size:=by rw [<-hlen'];exact(List.getElem?_eq_some_iff.1 hu).1
  have:=hat j hj;rw [Addr.add_lit,Addr.add_lit,hu] at this;exact this
def structOf (P:Program) (t:TypeId):Option (List (TypeId×Nat×Nat)):=
 match P.underlying t with
 |some (.struct fs)=>some (fs.toList.map fun f=>(f.type,f.offset,P.cellsOf f.type))
 |_=>none
theorem jk {P:Program} {t:TypeId} {fs':List (TypeId×Nat×Nat)} (hs:structOf P t=some fs') {H:Type} {enc:TypeId×Value->H} {W:World} {fuel:Nat} {cs:List Value} {x:DataW H×List MemPlace}
  (h:DataW.trod enc P W 0 (fun _=>true) true fuel t cs=some x):cs.length=P.cellsOf t/\∀(i:Nat) (f:TypeId×Nat×Nat),fs'[i]? =some f->∃n y,DataW.trod enc P W 0 (fun _=>true) true n f.1 ((cs.drop f.2.1).take f.2.2)=some y:=by
 unfold structOf at hs;split at hs
 ·rename_i fs hu
  obtain rfl:=bI hs;obtain⟨xs,n,_,_,hl,hlen,hf⟩:=DataW.trod_struct hu h;refine⟨hl,fun i f hi=>?_⟩;rw [List.getElem?_map] at hi;cases hfi:fs.toList[i]? with
  |none=>rw [hfi] at hi;cases hi
  |some fd=>
   rw [hfi] at hi;obtain rfl:=bI hi;have NP:fs[i]? =some fd:=by simpa using hfi
   have hlt:i<xs.length:=by rw [hlen];exact(Array.getElem?_eq_some_iff.1 NP).1
   have:=hf i fd NP;rw [dM hlt] at this;exact⟨n,_,this⟩
 ·cases hs
theorem wJ:Reads Tryz.prog 111 Ty.pt:=by
 intro H enc W fuel cs x h;obtain⟨hl,hf⟩:=jk (fs':=[(3,0,1),(3,1,1),(3,2,1)]) κ h;rw [show(Tryz.prog).cellsOf 111=3 by kernel_rfl] at hl;match cs,hl with
 | [a,b,c],_=>
  obtain⟨_,_,h0⟩:=hf 0 _ rfl;obtain⟨_,_,N⟩:=hf 1 _ rfl;obtain⟨_,_,Y⟩:=hf 2 _ rfl;obtain⟨x0,e0,w0⟩:=gY κ _ _ _ _ _ _ h0;obtain⟨x1,e1,w1⟩:=gY κ _ _ _ _ _ _ N;obtain⟨x2,e2,w2⟩:=gY κ _ _ _ _ _ _ Y;refine⟨⟨x0,x1,x2⟩,?_,w0,w1,w2⟩;simp at e0 e1 e2;subst e0 e1 e2;rfl
theorem sJ:Reads Tryz.prog 23 Ty.pts:=oL wJ κ κ ε
theorem EF {α:Type} {P:Program} {t e:TypeId} {T:Ty α} (hR:Reads P t T.sl) (ht:P.underlying t=some (.slice e)) {H:Type} {enc:TypeId×Value->H} {W:World} {r:Reach} {b:Nat} {v:Value} {d:DataW H} {p:List MemPlace}
  (hval:Value.okWide P W r b t v) (h:DataW.Trod enc P W 0 (fun _=>true) true t v d p):∃l,Sl T W.cell? v l:=by
 obtain⟨a,len,cap,rfl⟩:=okWide_slice ht hval;obtain⟨fuel,hf⟩:=h;obtain⟨l,v,e,hv⟩:=hR _ _ _ _ _ _ hf;simp [Value.cells] at e;subst e;exact⟨l,hv⟩
theorem own:ownKnob (Tryz.prog).godebug=none:=by kernel_rfl
theorem laidOut:laidOutB Tryz.prog=true:=by kernel_rfl
end Go.Proofs.YtocnmkefmgmkbaaGreat
namespace Go.Proofs.YtocnmkefmgmkbaaGreat
open Go.RowKit Go.ChangeShapes Go.WideShapes Go.ChangeAt
theorem EG {α:Type} {T:Ty α} {c:CM} {a:Option Addr} {n cap:Nat} {l:List α} (h:Sl T c (U a n cap) l):l.length=n:=by
 obtain⟨a',cap',he,_⟩:=h;simp only [Value.slice.injEq] at he;exact he.2.1.symm
theorem wK {α:Type} {P:Program} {t e:TypeId} {T:Ty α} {k:Nat} (ht:P.underlying t=some (.slice e)) (hb:P.bytesOf e=k) {H:Type} {enc:TypeId×Value->H} {W:World} {r:Reach} {b:Nat} {v:Value} {d:DataW H} {p:List MemPlace} {ts:List TypeId} {ds:List (DataW H)} {j:Nat}
  (hsz:(DataW.weightsEach P ts ds).all (· <=reachBytes)=true) (hj:ts[j]? =some t) (hd:ds[j]? =some d)
  (hval:Value.okWide P W r b t v) (h:DataW.Trod enc P W 0 (fun _=>true) true t v d p) {l:List α} (hl:Sl T W.cell? v l):l.length*k<=140737488351232:=by
 obtain⟨a,len,cap,rfl⟩:=okWide_slice ht hval;obtain⟨fuel,hf⟩:=h;have hll:=EG hl;rcases Deep.open_slice ht hf with⟨he,_⟩|⟨a',len',cap',m,n,D,Pl,he,_,hlc,_,hmm,hxe,_⟩
 ·simp [Value.cells] at he
  rw [hll,he.2.1];simp
 ·simp [Value.cells] at he
  obtain⟨_,rfl,rfl⟩:=he;obtain rfl:d=.slice ((List.range len).map D) ((List.range (m - len)).map fun j=>D (len+j)):=by simpa using congrArg Prod.fst hxe
  have:=sized_slice hsz hj hd ht;rw [hb,List.length_map,List.length_range] at this;rw [hll];have Y:len*k<=(len+((List.range (m - len)).map fun j=>D (len+j)).length)*k:=Nat.mul_le_mul_right _ (Nat.le_add_right _ _);have h3:reachBytes=140737488351232:=rfl;omega
theorem wL:Reads Tryz.prog 25 Ty.st:=by
 intro H enc W fuel cs x h;obtain⟨hl,hf⟩:=jk (fs':=[(3,0,1),(3,1,1),(23,2,1)]) κ h;rw [show(Tryz.prog).cellsOf 25=3 by kernel_rfl] at hl;match cs,hl with
 | [a,b,c],_=>
  obtain⟨_,_,h0⟩:=hf 0 _ rfl;obtain⟨_,_,N⟩:=hf 1 _ rfl;obtain⟨_,_,Y⟩:=hf 2 _ rfl;obtain⟨x0,e0,w0⟩:=gY κ _ _ _ _ _ _ h0;obtain⟨x1,e1,w1⟩:=gY κ _ _ _ _ _ _ N;obtain⟨x2,v2,e2,w2⟩:=sJ _ _ _ _ _ _ Y;refine⟨⟨x0,x1,x2⟩,v2,?_,w0,w1,w2⟩;simp at e0 e1 e2;subst e0 e1 e2;rfl
theorem sK:Reads Tryz.prog 22 (Ty.sl Ty.st):=oL wL κ κ ε
end Go.Proofs.YtocnmkefmgmkbaaGreat
