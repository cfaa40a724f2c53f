/- Parts of proofs, joined: E1, V1, E2, E4, M8, M9, N610, N6R, N6N, N6F, N64R, N64D, N64N, N65R, N65N, N6O, N7. No condition beside those that each theorem names. -/
import Derived.Test.YtocnmkefmgmkbaaGreatJW1b
set_option maxRecDepth 100000
set_option maxHeartbeats 40000000
namespace Go.Proofs.YtocnmkefmgmkbaaGreat
open Go.RowKit
theorem uS {α:Type} {l l':List α} {k:Nat} (hl:l.length=l'.length) (hk:l.length<=k) (h:∀j,j<k->l[j]? =l'[j]?):l=l':=by
 apply List.ext_getElem?;intro j;by_cases hj:j<k
 ·exact h j hj
 ·rw [List.getElem?_eq_none δ,List.getElem?_eq_none δ]
theorem rO {α:Type} {l l':List α} {k:Nat} (h1:k<l.length) (h2:k<l'.length) (h:∀j,j<k->l[j]? =l'[j]?) (he:l[k]=l'[k]):∀j,j<k+1->l[j]? =l'[j]?:=by
 intro j hj;by_cases e:j=k
 ·subst e;rw [List.getElem?_eq_getElem h1,List.getElem?_eq_getElem h2,he]
 ·exact h j δ
theorem yH {α:Type} [DecidableEq α] {l l':List α} {k:Nat} (h1:k<l.length) (h2:k<l'.length) (he:¬l[k]=l'[k]):decide (l=l')=false:=by
 rw [decide_eq_false_iff_not];rintro rfl;exact he rfl
theorem yI {v v':Value} {l l':List Int} (w:World) (hv:Ints w.cell? v l) (hv':Ints w.cell? v' l'):
  Calls Tryz.prog 64 #[v,v'] w fun e w'=>e=.returned (.bool (decide (l=l')))/\Grow w w':=by
 obtain⟨a,cap,rfl,h1,h2,-,hel⟩:=hv;obtain⟨a',cap',rfl,h1',h2',-,jX⟩:=hv';unfold maxLen at h2 h2';by_cases hlen:l.length=l'.length
 ·have hb:((l.length:Int) !=l'.length)=false:=by simp [hlen]
  have HL:=η hlen;clear hlen;go_enter Tryz.func64,Tryz.ntmps64;go_wp2;go_loopw [4,5,13] (fun _ _ i wr=>∃k:Nat,k<=l.length/\i=ι k/\Grow w wr/\∀j,j<k->l[j]? =l'[j]?) (fun _ _ i _=>l.length - (intOf i).toNat)
  case atStart=>exact⟨0,δ,rfl,gY,fun j h=>δ⟩
  case round=>
   obtain⟨k,hk',rfl,hb,hE⟩:=hrel;by_cases hlt:k<l.length
   ·have hlt':k<l'.length:=by have:=HL.o;omega
    have H1:=η (rO hlt hlt' hE);have H2:Hid (¬l[k]=l'[k]->decide (l=l')=false):=fun h=>yH hlt hlt' h;clear hE;obtain⟨b,o,rfl,c0,-⟩:=Bd hel k hlt;obtain⟨b',o',rfl,c0',-⟩:=Bd jX k hlt';replace c0:=hb.sub _ _ c0;replace c0':=hb.sub _ _ c0';clear hel jX;generalize l[k]=p at*;generalize l'[k]=p' at*;by_cases hpp:p=p'
    ·have H3:=η (H1.o hpp)
     have hne:(p !=p')=false:=by simp [hpp]
     clear hpp H1 H2;go_wp2_with (go_quiet (fail))
     go_roundw
     case rel=>exact⟨k+1,δ,by go_num,gY,H3.o⟩
     case measure=>simp [intOf];omega
    ·have H3:=η (H2.o hpp)
     have hne:(p !=p')=true:=by simp [hpp]
     clear hpp H1 H2;go_wp2_with (go_quiet (fail))
     go_ret;exact⟨bK H3.o.symm,gY⟩
   ·have HE:=η hE
    clear hel jX hE;go_wp2;go_ret;refine⟨bK ?_,hb⟩;rw [eq_comm,decide_eq_true_eq];exact uS HL.o δ HE.o
 ·have hb:((l.length:Int) !=l'.length)=true:=by simp;omega
  have HE:Hid (decide (l=l')=false):=by show _=_;rw [decide_eq_false_iff_not];rintro rfl;exact hlen rfl
  clear hlen hel jX;go_enter Tryz.func64,Tryz.ntmps64;go_wp2;go_ret;exact⟨bK HE.o.symm,gY⟩
theorem FT {v v':Value} {l l':List Rd} (w:World) (hv:Sl Ty.rd w.cell? v l) (hv':Sl Ty.rd w.cell? v' l'):
  Calls Tryz.prog 23 #[v,v'] w fun e w'=>e=.returned (.bool (decide (l=l')))/\Grow w w':=by
 obtain⟨a,cap,rfl,h1,h2,-,hel⟩:=hv;obtain⟨a',cap',rfl,h1',h2',-,jX⟩:=hv';unfold maxLen at h2 h2';by_cases hlen:l.length=l'.length
 ·have hb:((l.length:Int) !=l'.length)=false:=by simp [hlen]
  have HL:=η hlen;clear hlen;go_enter Tryz.func23,Tryz.ntmps23;go_wp2;go_loopw [4,5,13] (fun _ _ i wr=>∃k:Nat,k<=l.length/\i=ι k/\Grow w wr/\∀j,j<k->l[j]? =l'[j]?) (fun _ _ i _=>l.length - (intOf i).toNat)
  case atStart=>exact⟨0,δ,rfl,gY,fun j h=>δ⟩
  case round=>
   obtain⟨k,hk',rfl,hb,hE⟩:=hrel;by_cases hlt:k<l.length
   ·have hlt':k<l'.length:=by have:=HL.o;omega
    have H1:=η (rO hlt hlt' hE);have H2:Hid (¬l[k]=l'[k]->decide (l=l')=false):=fun h=>yH hlt hlt' h;clear hE;obtain⟨b,o,vp,rfl,c0,c1,-,hp⟩:=Yv.at_ hel k hlt;obtain⟨b',o',eI,rfl,c0',c1',-,hp'⟩:=Yv.at_ jX k hlt';obtain⟨ap,cp,rfl,-⟩:=id hp;obtain⟨SV,cp',rfl,-⟩:=id hp';have vT:=η (fun(W:World) (hW:Grow wr W)=>qR W (hp.mono (hb.trans hW).sub) (hp'.mono (hb.trans hW).sub));replace c0:=hb.sub _ _ c0;replace c0':=hb.sub _ _ c0';replace c1:=hb.sub _ _ c1;replace c1':=hb.sub _ _ c1';clear hel jX hp hp';generalize l[k]=p at*;generalize l'[k]=p' at*;have HS:Hid (∀W,Grow wr W->W.cell? ⟨b,o+k*2,none⟩=some (ι p.deed)/\W.cell? ⟨b,o+k*2+1,none⟩=some (ς ap p.parts.length cp)/\W.cell? ⟨b',o'+k*2,none⟩=some (ι p'.deed)/\W.cell? ⟨b',o'+k*2+1,none⟩=some (ς SV p'.parts.length cp')):=fun W hW=>⟨hW.sub _ _ c0,hW.sub _ _ c1,hW.sub _ _ c0',hW.sub _ _ c1'⟩;by_cases hd:p.deed=p'.deed
    ·have hne:(p.deed !=p'.deed)=false:=by simp [hd]
     by_cases hpp:p.parts=p'.parts
     ·have hpe:p=p':=by cases p;cases p';simp_all
      have H3:=η (H1.o hpe);have hdec:=decide_eq_true hpp;rw [hdec] at vT;clear hd hpp hpe H1 H2 hdec;go_wp2;go_region_held3 (fun w'=>w'.cell? ⟨b,o+k*2,none⟩=some (ι p.deed)/\w'.cell? ⟨b,o+k*2+1,none⟩=some (ς ap p.parts.length cp)/\w'.cell? ⟨b',o'+k*2,none⟩=some (ι p'.deed)/\w'.cell? ⟨b',o'+k*2+1,none⟩=some (ς SV p'.parts.length cp')) (first|assumption|exact HS.o _ Ce) (first|(go_at_call 62;refine(vT.o _ Ce).mono ?_;rintro e w4 ⟨rfl,hb4⟩))
      go_wp2;go_roundw
      case rel=>exact⟨k+1,δ,by go_num,hb.trans Ce,H3.o⟩
      case measure=>simp [intOf];omega
     ·have H3:=η (H2.o (fun e=>hpp (by rw [e])))
      have hdec:=decide_eq_false hpp;rw [hdec] at vT;clear hd hpp H1 H2 hdec;go_wp2;go_region_held3 (fun w'=>w'.cell? ⟨b,o+k*2,none⟩=some (ι p.deed)/\w'.cell? ⟨b,o+k*2+1,none⟩=some (ς ap p.parts.length cp)/\w'.cell? ⟨b',o'+k*2,none⟩=some (ι p'.deed)/\w'.cell? ⟨b',o'+k*2+1,none⟩=some (ς SV p'.parts.length cp')) (first|assumption|exact HS.o _ Ce) (first|(go_at_call 62;refine(vT.o _ Ce).mono ?_;rintro e w4 ⟨rfl,hb4⟩))
      go_wp2;go_ret;exact⟨bK H3.o.symm,hb.trans Ce⟩
    ·have H3:=η (H2.o (fun e=>hd (by rw [e])))
     have hne:(p.deed !=p'.deed)=true:=by simp [hd]
     clear hd H1 H2;go_wp2_with (go_quiet (fail))
     go_ret;exact⟨bK H3.o.symm,gY⟩
   ·have HE:=η hE
    clear hel jX hE;go_wp2;go_ret;refine⟨bK ?_,hb⟩;rw [eq_comm,decide_eq_true_eq];exact uS HL.o δ HE.o
 ·have hb:((l.length:Int) !=l'.length)=true:=by simp;omega
  have HE:Hid (decide (l=l')=false):=by show _=_;rw [decide_eq_false_iff_not];rintro rfl;exact hlen rfl
  clear hlen hel jX;go_enter Tryz.func23,Tryz.ntmps23;go_wp2;go_ret;exact⟨bK HE.o.symm,gY⟩
theorem OG {v:Value} {h:Hs} {me:Int} (w:World) (hv:Of Ty.hs w.cell? v h) (hme:I64 me) (hm:h.ready.length*48<=140737488355328):
  Calls Tryz.prog 85 #[v,ι me] w fun e w'=>∃v',e=.returned v'/\aI Ty.ms (fun _=>none) w' w.heap.size 85 v' (kX h me)/\Grow w w':=by
 obtain⟨al,cl,ar,cr,ad,cd,rfl⟩:=hv.dF;obtain⟨IK,IL,he,h1,h2,-,hel⟩:=(Of.iw hv).2.1;obtain⟨rfl,rfl⟩:ar=IK/\cr=IL:=by simpa using he
 unfold maxLen at h2;have HM:=η hm;have CW:=η hme;clear hm hme he hv;go_enter Tryz.func85,Tryz.ntmps85;go_wp2;go_loopw [5,11] (fun s5 i wr=>∃k:Nat,k<=h.ready.length/\i=ι k/\Grow w wr/\aI Ty.ms (fun _=>none) wr w.heap.size 85 s5 ((h.ready.take k).map fun r=>(⟨7,r.deed,me,[]⟩:Ms))) (fun _ i _=>h.ready.length - (intOf i).toNat)
 case atStart=>exact⟨0,δ,rfl,gY,aI.nil _ _ _ _ _⟩
 case round=>
  obtain⟨k,hk',rfl,hb,hown⟩:=hrel;by_cases hlt:k<h.ready.length
  ·obtain⟨b,o,vp,rfl,c0,c1,i0,hP⟩:=Yv.at_ hel k hlt
   obtain⟨ap,cp,rfl,-⟩:=id hP;replace c0:=hb.sub _ _ c0;replace c1:=hb.sub _ _ c1;have kY:=η (show(h.ready.take (k+1)).map (fun r=>(⟨7,r.deed,me,[]⟩:Ms))=(h.ready.take k).map (fun r=>(⟨7,r.deed,me,[]⟩:Ms))++ [⟨7,h.ready[k].deed,me,[]⟩] by rw [List.take_succ_eq_append_getElem hlt,List.map_append];rfl);have FK:=η (show((h.ready.take k).map fun r=>(⟨7,r.deed,me,[]⟩:Ms)).length<=k by simp;omega);have HOWN:=η hown;have HI:=η i0;obtain⟨av,cv,rfl⟩:=hown.form;clear hel hP hown i0;generalize h.ready[k]=r at*;generalize (h.ready.take k).map (fun r=>(⟨7,r.deed,me,[]⟩:Ms))=ms at*;go_wp2_with (first|(at_builtin;refine aZ (c:=fun _=>none) (base:=w.heap.size) (l:=ms) (m:=[⟨7,r.deed,me,[]⟩]) tN rfl kU ε rfl (.tmp 15) (.tmp 20) rfl rfl ?own rfl (Src.bQ (T:=Ty.ms) (cs:=#[ι 7,ι r.deed,ι me,()]) ⟨_,rfl,(show I64 7 from by unfold I64;decide),HI.o,CW.o,Sl.nil _ _⟩ _ _ ?d1) ?d2 ?d3 ?_))
   case own=>exact HOWN.o.grow (((Grow.refl _).alloc _).alloc _)
   case d1=>simp
   case d2=>have:=HM.o;have:=FK.o;simp;omega
   case d3=>have:=hb.size;simp;omega
   intro a9 c9 w9 fB eF gI;have jL:Hid (Grow w w9):=η (bn (w0:=w) ((hb.alloc _).alloc _) eF (fun q hq=>(HOWN.o.lt q hq).1));have iF:=η fB;clear fB eF gI;go_wp2;go_roundw
   case rel=>exact⟨k+1,δ,by go_num,jL.o,by rw [kY.o];exact iF.o⟩
   case measure=>simp [intOf];omega
  ·clear hel
   go_wp2;go_ret;have h9:=hown;rw [List.take_of_length_le δ] at h9;exact⟨_,rfl,h9,hb⟩
theorem FV {v:Value} {h:Hs} {me:Int} (w:World) (hv:Of Ty.hs w.cell? v h) (hme:I64 me) (hm:h.ready.length*48<=140737488355328):
  Calls Tryz.prog 58 #[v,ι me] w fun e w'=>∃v',e=.returned v'/\aI Ty.ms (fun _=>none) w' w.heap.size 85 v' (kX h me)/\Grow w w':=by
 obtain⟨al,cl,ar,cr,ad,cd,rfl⟩:=hv.dF;obtain⟨IK,IL,he,h1,h2,-,hel⟩:=(Of.iw hv).2.1;obtain⟨rfl,rfl⟩:ar=IK/\cr=IL:=by simpa using he
 unfold maxLen at h2;have HM:=η hm;have CW:=η hme;clear hm hme he hv;go_enter Tryz.func58,Tryz.ntmps58;go_wp2;go_loopw [5,11] (fun s5 i wr=>∃k:Nat,k<=h.ready.length/\i=ι k/\Grow w wr/\aI Ty.ms (fun _=>none) wr w.heap.size 85 s5 ((h.ready.take k).map fun r=>(⟨7,r.deed,me,[]⟩:Ms))) (fun _ i _=>h.ready.length - (intOf i).toNat)
 case atStart=>exact⟨0,δ,rfl,gY,aI.nil _ _ _ _ _⟩
 case round=>
  obtain⟨k,hk',rfl,hb,hown⟩:=hrel;by_cases hlt:k<h.ready.length
  ·obtain⟨b,o,vp,rfl,c0,c1,i0,hP⟩:=Yv.at_ hel k hlt
   obtain⟨ap,cp,rfl,-⟩:=id hP;replace c0:=hb.sub _ _ c0;replace c1:=hb.sub _ _ c1;have kY:=η (show(h.ready.take (k+1)).map (fun r=>(⟨7,r.deed,me,[]⟩:Ms))=(h.ready.take k).map (fun r=>(⟨7,r.deed,me,[]⟩:Ms))++ [⟨7,h.ready[k].deed,me,[]⟩] by rw [List.take_succ_eq_append_getElem hlt,List.map_append];rfl);have FK:=η (show((h.ready.take k).map fun r=>(⟨7,r.deed,me,[]⟩:Ms)).length<=k by simp;omega);have HOWN:=η hown;have HI:=η i0;obtain⟨av,cv,rfl⟩:=hown.form;clear hel hP hown i0;generalize h.ready[k]=r at*;generalize (h.ready.take k).map (fun r=>(⟨7,r.deed,me,[]⟩:Ms))=ms at*;go_wp2_with (first|(at_builtin;refine aZ (c:=fun _=>none) (base:=w.heap.size) (l:=ms) (m:=[⟨7,r.deed,me,[]⟩]) tN rfl kU ε rfl (.tmp 15) (.tmp 20) rfl rfl ?own rfl (Src.bQ (T:=Ty.ms) (cs:=#[ι 7,ι r.deed,ι me,()]) ⟨_,rfl,(show I64 7 from by unfold I64;decide),HI.o,CW.o,Sl.nil _ _⟩ _ _ ?d1) ?d2 ?d3 ?_))
   case own=>exact HOWN.o.grow (((Grow.refl _).alloc _).alloc _)
   case d1=>simp
   case d2=>have:=HM.o;have:=FK.o;simp;omega
   case d3=>have:=hb.size;simp;omega
   intro a9 c9 w9 fB eF gI;have jL:Hid (Grow w w9):=η (bn (w0:=w) ((hb.alloc _).alloc _) eF (fun q hq=>(HOWN.o.lt q hq).1));have iF:=η fB;clear fB eF gI;go_wp2;go_roundw
   case rel=>exact⟨k+1,δ,by go_num,jL.o,by rw [kY.o];exact iF.o⟩
   case measure=>simp [intOf];omega
  ·clear hel
   go_wp2;go_ret;have h9:=hown;rw [List.take_of_length_le δ] at h9;exact⟨_,rfl,h9,hb⟩
theorem eK (w:World) (B:Nat) (d:Int) (wx:World) (cs:List Value) (x:Rd) (hc:w.cell? ⟨B,0,none⟩=some (ι d)) (hg:Grow w wx) (hR:Ty.rd.R wx.cell? cs x):
  Calls Tryz.prog 138 #[.agg cs.toArray,.pointer (some ⟨B,0,none⟩)] wx fun e w'=>e=.returned (.bool (kD d x))/\Grow wx w':=by
 obtain⟨vp,rfl,-,hp⟩:=hR;obtain⟨ap,cp,rfl,-⟩:=hp;have hB:=World.block_lt_of_cell? w _ hc;simp only at hB;have hBx:B<wx.heap.size:=Nat.lt_of_lt_of_le hB hg.size;replace hc:=hg.sub _ _ hc;go_enter Tryz.func138,Tryz.ntmps138;go_wp2;go_ret;exact⟨rfl,gY⟩
theorem VQ (w:World) (B:Nat) (d:Int) (l:List Rd) (hc:w.cell? ⟨B,0,none⟩=some (ι d)):qF Tryz.prog Ty.rd lQ w 138 #[.pointer (some ⟨B,0,none⟩)] l (kD d) where
 ent:=fun args w=>by kernel_rfl
 say:=fun wx cs x hg _ hR=>eK w B d wx cs x hc hg hR
theorem LH {B:Nat} {d:Int} {l:List Rd} {a:Option Addr} {cap:Nat} (w:World) (hb:B<w.heap.size) (hc:w.cell? ⟨B,5,none⟩=some (ς a l.length cap)) (hv:Sl Ty.rd w.cell? (ς a l.length cap) l):
  Calls Tryz.prog 116 #[.pointer (some ⟨B,0,none⟩),ι d] w fun e w'=>e=.returned (.bool (bM l d))/\Grow w w':=by
 have HX:=η (Cj (w.alloc (.cells #[ι d] 3)) (hv.mono ((Grow.refl w).alloc _).sub) (VQ (w.alloc (.cells #[ι d] 3)) w.heap.size d l (by rw [World.cell?_alloc_new];rfl)));clear hv;go_enter Tryz.func116,Tryz.ntmps116;go_wp2_with fail
 refine HX.o.mono ?_;rintro e w1 ⟨rfl,hb1⟩;have HB:=η hb1;clear hb1;go_wp2;go_ret;exact⟨rfl,((Grow.refl w).alloc _).trans HB.o⟩
theorem BL {v v':Value} {l l':List Rc} (w:World) (hv:Sl Ty.rc w.cell? v l) (hv':Sl Ty.rc w.cell? v' l'):
  Calls Tryz.prog 63 #[v,v'] w fun e w'=>e=.returned (.bool (decide (l=l')))/\Grow w w':=by
 obtain⟨a,cap,rfl,h1,h2,-,hel⟩:=hv;obtain⟨a',cap',rfl,h1',h2',-,jX⟩:=hv';unfold maxLen at h2 h2';by_cases hlen:l.length=l'.length
 ·have hb:((l.length:Int) !=l'.length)=false:=by simp [hlen]
  have HL:=η hlen;clear hlen;go_enter Tryz.func63,Tryz.ntmps63;go_wp2;go_loopw [4,5,13] (fun _ _ i wr=>∃k:Nat,k<=l.length/\i=ι k/\Grow w wr/\∀j,j<k->l[j]? =l'[j]?) (fun _ _ i _=>l.length - (intOf i).toNat)
  case atStart=>exact⟨0,δ,rfl,gY,fun j h=>δ⟩
  case round=>
   obtain⟨k,hk',rfl,hb,hE⟩:=hrel;by_cases hlt:k<l.length
   ·have hlt':k<l'.length:=by have:=HL.o;omega
    have H1:=η (rO hlt hlt' hE);have H2:Hid (¬l[k]=l'[k]->decide (l=l')=false):=fun h=>yH hlt hlt' h;clear hE;obtain⟨b,o,vp,rfl,c0,c1,c2,-,-,hp⟩:=UD.at_ hel k hlt;obtain⟨b',o',eI,rfl,c0',c1',c2',-,-,hp'⟩:=UD.at_ jX k hlt';obtain⟨ap,cp,rfl,-⟩:=id hp;obtain⟨SV,cp',rfl,-⟩:=id hp';have vT:=η (fun(W:World) (hW:Grow wr W)=>qR W (hp.mono (hb.trans hW).sub) (hp'.mono (hb.trans hW).sub));replace c0:=hb.sub _ _ c0;replace c0':=hb.sub _ _ c0';replace c1:=hb.sub _ _ c1;replace c1':=hb.sub _ _ c1';replace c2:=hb.sub _ _ c2;replace c2':=hb.sub _ _ c2';clear hel jX hp hp';generalize l[k]=p at*;generalize l'[k]=p' at*;have HS:Hid (∀W,Grow wr W->W.cell? ⟨b,o+k*3,none⟩=some (ι p.kind)/\W.cell? ⟨b,o+k*3+1,none⟩=some (ι p.deed)/\W.cell? ⟨b,o+k*3+2,none⟩=some (ς ap p.parts.length cp)/\W.cell? ⟨b',o'+k*3,none⟩=some (ι p'.kind)/\W.cell? ⟨b',o'+k*3+1,none⟩=some (ι p'.deed)/\W.cell? ⟨b',o'+k*3+2,none⟩=some (ς SV p'.parts.length cp')):=fun W hW=>⟨hW.sub _ _ c0,hW.sub _ _ c1,hW.sub _ _ c2,hW.sub _ _ c0',hW.sub _ _ c1',hW.sub _ _ c2'⟩;by_cases hk:p.kind=p'.kind
    ·have hnk:(p.kind !=p'.kind)=false:=by simp [hk]
     by_cases hd:p.deed=p'.deed
     ·have hne:(p.deed !=p'.deed)=false:=by simp [hd]
      by_cases hpp:p.parts=p'.parts
      ·have hpe:p=p':=by cases p;cases p';simp_all
       have H3:=η (H1.o hpe);have hdec:=decide_eq_true hpp;rw [hdec] at vT;clear hk hd hpp hpe H1 H2 hdec;go_wp2;go_region_held3 (fun w'=>w'.cell? ⟨b,o+k*3,none⟩=some (ι p.kind)/\w'.cell? ⟨b,o+k*3+1,none⟩=some (ι p.deed)/\w'.cell? ⟨b,o+k*3+2,none⟩=some (ς ap p.parts.length cp)/\w'.cell? ⟨b',o'+k*3,none⟩=some (ι p'.kind)/\w'.cell? ⟨b',o'+k*3+1,none⟩=some (ι p'.deed)/\w'.cell? ⟨b',o'+k*3+2,none⟩=some (ς SV p'.parts.length cp')) (first|assumption|exact HS.o _ Ce) (first|(go_at_call 62;refine(vT.o _ Ce).mono ?_;rintro e w4 ⟨rfl,hb4⟩))
       go_wp2;go_roundw
       case rel=>exact⟨k+1,δ,by go_num,hb.trans Ce,H3.o⟩
       case measure=>simp [intOf];omega
      ·have H3:=η (H2.o (fun e=>hpp (by rw [e])))
       have hdec:=decide_eq_false hpp;rw [hdec] at vT;clear hk hd hpp H1 H2 hdec;go_wp2;go_region_held3 (fun w'=>w'.cell? ⟨b,o+k*3,none⟩=some (ι p.kind)/\w'.cell? ⟨b,o+k*3+1,none⟩=some (ι p.deed)/\w'.cell? ⟨b,o+k*3+2,none⟩=some (ς ap p.parts.length cp)/\w'.cell? ⟨b',o'+k*3,none⟩=some (ι p'.kind)/\w'.cell? ⟨b',o'+k*3+1,none⟩=some (ι p'.deed)/\w'.cell? ⟨b',o'+k*3+2,none⟩=some (ς SV p'.parts.length cp')) (first|assumption|exact HS.o _ Ce) (first|(go_at_call 62;refine(vT.o _ Ce).mono ?_;rintro e w4 ⟨rfl,hb4⟩))
       go_wp2;go_ret;exact⟨bK H3.o.symm,hb.trans Ce⟩
     ·have H3:=η (H2.o (fun e=>hd (by rw [e])))
      have hne:(p.deed !=p'.deed)=true:=by simp [hd]
      clear hk hd H1 H2;go_wp2_with (go_quiet (fail))
      go_ret;exact⟨bK H3.o.symm,gY⟩
    ·have H3:=η (H2.o (fun e=>hk (by rw [e])))
     have hnk:(p.kind !=p'.kind)=true:=by simp [hk]
     clear hk H1 H2;go_wp2_with (go_quiet (fail))
     go_ret;exact⟨bK H3.o.symm,gY⟩
   ·have HE:=η hE
    clear hel jX hE;go_wp2;go_ret;refine⟨bK ?_,hb⟩;rw [eq_comm,decide_eq_true_eq];exact uS HL.o δ HE.o
 ·have hb:((l.length:Int) !=l'.length)=true:=by simp;omega
  have HE:Hid (decide (l=l')=false):=by show _=_;rw [decide_eq_false_iff_not];rintro rfl;exact hlen rfl
  clear hlen hel jX;go_enter Tryz.func63,Tryz.ntmps63;go_wp2;go_ret;exact⟨bK HE.o.symm,gY⟩
theorem Jd (s t:Sm) (w:World):(binOp .eql 47 (.agg #[ι s.a,ι s.b,ι s.c,ι s.d]) (.agg #[ι t.a,ι t.b,ι t.c,ι t.d])).run Tryz.prog w=.ok (.bool (decide (s=t))) w:=by
 have u3:=Tryz.underlying3;have a3:=Tryz.isAgg3;have z3:=Tryz.sizeOf3;obtain⟨i,z,hi,_⟩:=iM.hi;have hc:Tryz.prog.cellsOf 3=1:=by kernel_rfl
 rw [run_eql_struct,show(10000:Nat)=9999+1 from rfl,run_equalIn_array w 9999 _ _ Tryz.underlying47 hi,hc,show List.range 4=[0,1,2,3] from rfl];clear hi;simp only [Op.eqItems];obtain⟨a,b,c,d⟩:=s;obtain⟨a',b',c',d'⟩:=t;go_simp;by_cases h1:a=a'<;>by_cases h2:b=b'<;>by_cases h3:c=c'<;>by_cases h4:d=d'<;>simp [h1,h2,h3,h4]
theorem yM:Tryz.prog.eqGuardType Tryz.prog.depth 47=false:=by kernel_rfl
theorem Of.dS {c:CM} {v:Value} {h:Hd} (hv:Of Ty.hd c v h):∃al cl ar cr,v=.agg #[ς al h.log.length cl,ι h.aG,ι h.next,ς ar h.opn.length cr]:=by
 obtain⟨cs,rfl,vl,vo,rfl,hl,-,-,ho⟩:=hv;obtain⟨al,cl,rfl,-⟩:=id hl;obtain⟨ao,co,rfl,-⟩:=id ho;exact⟨_,_,_,_,rfl⟩
theorem Of.lq {c:CM} {al ar:Option Addr} {nl cl nr cr:Nat} {b n:Value} {h:Hd} (hv:Of Ty.hd c (.agg #[ς al nl cl,b,n,ς ar nr cr]) h):Sl Ty.rc c (ς al nl cl) h.log/\Sl Ty.opn c (ς ar nr cr) h.opn:=by
 obtain⟨cs,he,vl,vo,rfl,hl,-,-,ho⟩:=hv;simp at he;obtain⟨rfl,-,-,rfl⟩:=he;exact⟨hl,ho⟩
theorem Jh {v v':Value} {h h':Hd} (w:World) (hv:Of Ty.hd w.cell? v h) (hv':Of Ty.hd w.cell? v' h'):
  Calls Tryz.prog 40 #[v,v'] w fun e w'=>e=.returned (.bool (decide (h=h')))/\Grow w w':=by
 obtain⟨al,cl,ar,cr,rfl⟩:=hv.dS;obtain⟨eU,eX,kG,kH,rfl⟩:=hv'.dS;have k:=Of.lq hv;have k':=Of.lq hv';have HSL:=η (fun(W:World) (hW:Grow w W)=>BL W (k.1.mono hW.sub) (k'.1.mono hW.sub));have jq:Hid (Grow w ((w.alloc (.cells #[ς al h.log.length cl,ι h.aG,ι h.next,ς ar h.opn.length cr] 29)).alloc (.cells #[ς eU h'.log.length eX,ι h'.aG,ι h'.next,ς kG h'.opn.length kH] 29))):=η (((Grow.refl w).alloc _).alloc _);have HR2:Hid (((w.alloc (.cells #[ς al h.log.length cl,ι h.aG,ι h.next,ς ar h.opn.length cr] 29)).alloc (.cells #[ς eU h'.log.length eX,ι h'.aG,ι h'.next,ς kG h'.opn.length kH] 29)).heap[w.heap.size]? =some (.cells #[ς al h.log.length cl,ι h.aG,ι h.next,ς ar h.opn.length cr] 29 (0,0))):=η (aB (aF _ _) _);have HR3:Hid (((w.alloc (.cells #[ς al h.log.length cl,ι h.aG,ι h.next,ς ar h.opn.length cr] 29)).alloc (.cells #[ς eU h'.log.length eX,ι h'.aG,ι h'.next,ς kG h'.opn.length kH] 29)).heap[w.heap.size+1]? =some (.cells #[ς eU h'.log.length eX,ι h'.aG,ι h'.next,ς kG h'.opn.length kH] 29 (0,0))):=η (by simpa using aF (w.alloc (.cells #[ς al h.log.length cl,ι h.aG,ι h.next,ς ar h.opn.length cr] 29)) _);obtain⟨IK,IL,he,h1,h2,-,hel⟩:=k.2;obtain⟨rfl,rfl⟩:ar=IK/\cr=IL:=by simpa using he
 obtain⟨ar3,cr3,he',h1',h2',-,jX⟩:=k'.2;obtain⟨rfl,rfl⟩:kG=ar3/\kH=cr3:=by simpa using he'
 unfold maxLen at h2 h2';clear hv hv' k k' he he';by_cases hl:h.log=h'.log
 ·by_cases hb:h.aG=h'.aG
  ·by_cases hn:h.next=h'.next
   ·by_cases ho:h.opn.length=h'.opn.length
    ·have DL:=η (decide_eq_true hl)
     have b1:(h.aG !=h'.aG)=false:=by simp [hb]
     have b2:(h.next !=h'.next)=false:=by simp [hn]
     have b3:((h.opn.length:Int) !=h'.opn.length)=false:=by simp [ho]
     have uE:Hid (h.opn=h'.opn->h=h'):=fun e=>by cases h;cases h';simp_all
     have wP:=η ho;clear hl hb hn ho;go_enter Tryz.func40,Tryz.ntmps40;go_wp2_with fail
     refine(HSL.o _ jq.o).mono ?_;rw [DL.o];rintro e w1 ⟨rfl,dI⟩;(obtain⟨KI,NS⟩:=fJ dI;have w_:w.heap.size<w1:=(ω dI.size);have Ji:w.heap.size+1<w1:=(ω dI.size);have tY:=η dI;clear dI)
     have L8:Hid (Grow w w1):=η (jq.o.trans tY.o);obtain⟨k0,k1,k2,k3⟩:=cells4 (aj HR2.o tY.o);obtain⟨m0,m1,m2,m3⟩:=cells4 (aj HR3.o tY.o);have uL:=η m3;clear KI NS;go_wp2;clear k0 k1 k2 k3 m0 m1 m2 m3;go_loopw [40] (fun i wr=>∃k:Nat,k<=h.opn.length/\i=ι k/\Grow w1 wr/\∀j,j<k->h.opn[j]? =h'.opn[j]?) (fun i _=>h.opn.length - (intOf i).toNat)
     case atStart=>exact⟨0,δ,rfl,Grow.refl _,fun j h=>δ⟩
     case round=>
      obtain⟨k,hk',rfl,hb,hE⟩:=hrel;by_cases hlt:k<h.opn.length
      ·have hlt':k<h'.opn.length:=by have:=wP.o;omega
       have H1:=η (rO hlt hlt' hE);have H2:Hid (¬h.opn[k]=h'.opn[k]->decide (h=h')=false):=fun h2=>by
        rw [decide_eq_false_iff_not];intro e;apply h2;simp [e]
       clear hE;obtain⟨b,o,vp,vh,rfl,c0,c1,c2,c3,-,hp,hh⟩:=Ci.at_ hel k hlt;obtain⟨b',o',vq,vg,rfl,d0,d1,d2,d3,-,hq,hg⟩:=Ci.at_ jX k hlt';obtain⟨ap,cp,rfl,-⟩:=id hp;obtain⟨ah,ch,rfl,-⟩:=id hh;obtain⟨aq,cq,rfl,-⟩:=id hq;obtain⟨ag,cg,rfl,-⟩:=id hg;have vT:=η (fun(W:World) (hW:Grow wr W)=>qR W (hp.mono (L8.o.trans (hb.trans hW)).sub) (hq.mono (L8.o.trans (hb.trans hW)).sub));have TK:=η (fun(W:World) (hW:Grow wr W)=>yI W (hh.mono (L8.o.trans (hb.trans hW)).sub) (hg.mono (L8.o.trans (hb.trans hW)).sub));replace c0:=(L8.o.trans hb).sub _ _ c0;replace c1:=(L8.o.trans hb).sub _ _ c1;replace c2:=(L8.o.trans hb).sub _ _ c2;replace c3:=(L8.o.trans hb).sub _ _ c3;replace d0:=(L8.o.trans hb).sub _ _ d0;replace d1:=(L8.o.trans hb).sub _ _ d1;replace d2:=(L8.o.trans hb).sub _ _ d2;replace d3:=(L8.o.trans hb).sub _ _ d3;have m3:=hb.sub _ _ uL.o;have z1:w.heap.size+1<wr:=World.block_lt_of_cell? wr _ m3;have z2:b'<wr.heap.size:=World.block_lt_of_cell? wr _ d0;clear hel jX hp hh hq hg;generalize h.opn[k]=p at*;generalize h'.opn[k]=q at*;generalize oY:p.dec=bp at*;generalize o3:q.dec=bq at*;by_cases u_:p.deed=q.deed
       ·by_cases hdec:bp=bq
        ·subst hdec
         by_cases hparts:p.parts=q.parts
         ·by_cases hheard:p.heard=q.heard
          ·have hpe:p=q:=by cases p;cases q;simp_all
           have H3:=η (H1.o hpe);have n1:(p.deed !=q.deed)=false:=by simp [u_]
           have DP:=η (decide_eq_true hparts);have DI:=η (decide_eq_true hheard);clear hpe oY o3 u_ hparts hheard H1 H2;go_wp2_with fail
           refine(vT.o _ (((Grow.refl wr).alloc (.cells #[ι p.deed,ς ap p.parts.length cp,.bool bp,ς ah p.heard.length ch] 58)).alloc (.cells #[ι q.deed,ς aq q.parts.length cq,.bool bp,ς ag q.heard.length cg] 58))).mono ?_;rw [DP.o];rintro e w2 ⟨rfl,hbw2⟩;(obtain⟨aD,aE⟩:=fJ hbw2;have SY:wr.heap.size<w2:=(ω hbw2.size);have Wn:wr.heap.size+1<w2:=(ω hbw2.size);have KL:=η hbw2;clear hbw2)
           go_wp2_with fail
           refine(TK.o _ ((((Grow.refl wr).alloc (.cells #[ι p.deed,ς ap p.parts.length cp,.bool bp,ς ah p.heard.length ch] 58)).alloc (.cells #[ι q.deed,ς aq q.parts.length cq,.bool bp,ς ag q.heard.length cg] 58)).trans KL.o)).mono ?_;rw [DI.o];rintro e w3 ⟨rfl,hbw3⟩;(obtain⟨LI,LN⟩:=fJ hbw3;have f8:wr.heap.size<w3:=(ω hbw3.size);have gA:wr.heap.size+1<w3:=(ω hbw3.size);have gC:=η hbw3;clear hbw3)
           go_wp2;go_roundw
           case rel=>exact⟨k+1,δ,by go_num,hb.trans (((((Grow.refl wr).alloc (.cells #[ι p.deed,ς ap p.parts.length cp,.bool bp,ς ah p.heard.length ch] 58)).alloc (.cells #[ι q.deed,ς aq q.parts.length cq,.bool bp,ς ag q.heard.length cg] 58)).trans KL.o).trans gC.o),H3.o⟩
           case measure=>simp [intOf];omega
          ·have H3:=η (H2.o (fun e=>hheard (by rw [e])))
           have n1:(p.deed !=q.deed)=false:=by simp [u_]
           have DP:=η (decide_eq_true hparts);have DI:=η (decide_eq_false hheard);clear oY o3 u_ hparts hheard H1 H2;go_wp2_with fail
           refine(vT.o _ (((Grow.refl wr).alloc (.cells #[ι p.deed,ς ap p.parts.length cp,.bool bp,ς ah p.heard.length ch] 58)).alloc (.cells #[ι q.deed,ς aq q.parts.length cq,.bool bp,ς ag q.heard.length cg] 58))).mono ?_;rw [DP.o];rintro e w2 ⟨rfl,hbw2⟩;(obtain⟨aD,aE⟩:=fJ hbw2;have SY:wr.heap.size<w2:=(ω hbw2.size);have Wn:wr.heap.size+1<w2:=(ω hbw2.size);have KL:=η hbw2;clear hbw2)
           go_wp2_with fail
           refine(TK.o _ ((((Grow.refl wr).alloc (.cells #[ι p.deed,ς ap p.parts.length cp,.bool bp,ς ah p.heard.length ch] 58)).alloc (.cells #[ι q.deed,ς aq q.parts.length cq,.bool bp,ς ag q.heard.length cg] 58)).trans KL.o)).mono ?_;rw [DI.o];rintro e w3 ⟨rfl,hbw3⟩;(obtain⟨LI,LN⟩:=fJ hbw3;have f8:wr.heap.size<w3:=(ω hbw3.size);have gA:wr.heap.size+1<w3:=(ω hbw3.size);have gC:=η hbw3;clear hbw3)
           go_wp2;go_ret;exact⟨bK H3.o.symm,L8.o.trans (hb.trans (((((Grow.refl wr).alloc (.cells #[ι p.deed,ς ap p.parts.length cp,.bool bp,ς ah p.heard.length ch] 58)).alloc (.cells #[ι q.deed,ς aq q.parts.length cq,.bool bp,ς ag q.heard.length cg] 58)).trans KL.o).trans gC.o))⟩
         ·have H3:=η (H2.o (fun e=>hparts (by rw [e])))
          have n1:(p.deed !=q.deed)=false:=by simp [u_]
          have DP:=η (decide_eq_false hparts);clear oY o3 u_ hparts H1 H2;go_wp2_with fail
          refine(vT.o _ (((Grow.refl wr).alloc (.cells #[ι p.deed,ς ap p.parts.length cp,.bool bp,ς ah p.heard.length ch] 58)).alloc (.cells #[ι q.deed,ς aq q.parts.length cq,.bool bp,ς ag q.heard.length cg] 58))).mono ?_;rw [DP.o];rintro e w2 ⟨rfl,hbw2⟩;(obtain⟨aD,aE⟩:=fJ hbw2;have SY:wr.heap.size<w2:=(ω hbw2.size);have Wn:wr.heap.size+1<w2:=(ω hbw2.size);have KL:=η hbw2;clear hbw2)
          go_wp2;go_ret;exact⟨bK H3.o.symm,L8.o.trans (hb.trans ((((Grow.refl wr).alloc (.cells #[ι p.deed,ς ap p.parts.length cp,.bool bp,ς ah p.heard.length ch] 58)).alloc (.cells #[ι q.deed,ς aq q.parts.length cq,.bool bp,ς ag q.heard.length cg] 58)).trans KL.o))⟩
        ·have H3:=η (H2.o (fun e=>hdec (by rw [<-oY,<-o3,e])))
         have n1:(p.deed !=q.deed)=false:=by simp [u_]
         have h2b:(bp=true/\bq=false)∨(bp=false/\bq=true):=by cases bp<;>cases bq<;>simp_all
         clear oY o3 u_ hdec H1 H2;rcases h2b with⟨rfl,rfl⟩|⟨rfl,rfl⟩
         all_goals
          go_wp2;go_ret;exact⟨bK H3.o.symm,L8.o.trans gY⟩
       ·have H3:=η (H2.o (fun e=>u_ (by rw [e])))
        have n1:(p.deed !=q.deed)=true:=by simp [u_]
        clear oY o3 u_ H1 H2;go_wp2;go_ret;exact⟨bK H3.o.symm,L8.o.trans gY⟩
      ·have H9:=η (uS wP.o δ hE)
       clear hel jX hE;go_wp2;go_ret;refine⟨bK ?_,L8.o.trans hb⟩;rw [eq_comm,decide_eq_true_eq];exact uE.o H9.o
    ·have HE:Hid (decide (h=h')=false):=by show _=_;rw [decide_eq_false_iff_not];rintro rfl;exact ho rfl
     have DL:=η (decide_eq_true hl);have b1:(h.aG !=h'.aG)=false:=by simp [hb]
     have b2:(h.next !=h'.next)=false:=by simp [hn]
     have b3:((h.opn.length:Int) !=h'.opn.length)=true:=by simp;omega
     clear hl hb hn ho hel jX;go_enter Tryz.func40,Tryz.ntmps40;go_wp2_with fail
     refine(HSL.o _ jq.o).mono ?_;rw [DL.o];rintro e w1 ⟨rfl,dI⟩;(obtain⟨KI,NS⟩:=fJ dI;have w_:w.heap.size<w1:=(ω dI.size);have Ji:w.heap.size+1<w1:=(ω dI.size);have tY:=η dI;clear dI)
     go_wp2;go_ret;exact⟨bK HE.o.symm,jq.o.trans tY.o⟩
   ·have HE:Hid (decide (h=h')=false):=by show _=_;rw [decide_eq_false_iff_not];rintro rfl;exact hn rfl
    have DL:=η (decide_eq_true hl);have b1:(h.aG !=h'.aG)=false:=by simp [hb]
    have b2:(h.next !=h'.next)=true:=by simp [hn]
    clear hl hb hn hel jX;go_enter Tryz.func40,Tryz.ntmps40;go_wp2_with fail
    refine(HSL.o _ jq.o).mono ?_;rw [DL.o];rintro e w1 ⟨rfl,dI⟩;(obtain⟨KI,NS⟩:=fJ dI;have w_:w.heap.size<w1:=(ω dI.size);have Ji:w.heap.size+1<w1:=(ω dI.size);have tY:=η dI;clear dI)
    go_wp2;go_ret;exact⟨bK HE.o.symm,jq.o.trans tY.o⟩
  ·have HE:Hid (decide (h=h')=false):=by show _=_;rw [decide_eq_false_iff_not];rintro rfl;exact hb rfl
   have DL:=η (decide_eq_true hl);have b1:(h.aG !=h'.aG)=true:=by simp [hb]
   clear hl hb hel jX;go_enter Tryz.func40,Tryz.ntmps40;go_wp2_with fail
   refine(HSL.o _ jq.o).mono ?_;rw [DL.o];rintro e w1 ⟨rfl,dI⟩;(obtain⟨KI,NS⟩:=fJ dI;have w_:w.heap.size<w1:=(ω dI.size);have Ji:w.heap.size+1<w1:=(ω dI.size);have tY:=η dI;clear dI)
   go_wp2;go_ret;exact⟨bK HE.o.symm,jq.o.trans tY.o⟩
 ·have HE:Hid (decide (h=h')=false):=by show _=_;rw [decide_eq_false_iff_not];rintro rfl;exact hl rfl
  have DL:=η (decide_eq_false hl);clear hl hel jX;go_enter Tryz.func40,Tryz.ntmps40;go_wp2_with fail
  refine(HSL.o _ jq.o).mono ?_;rw [DL.o];rintro e w1 ⟨rfl,dI⟩;(obtain⟨KI,NS⟩:=fJ dI;have w_:w.heap.size<w1:=(ω dI.size);have Ji:w.heap.size+1<w1:=(ω dI.size);have tY:=η dI;clear dI)
  go_wp2;go_ret;exact⟨bK HE.o.symm,jq.o.trans tY.o⟩
structure EA (h:Hd) (n:Nat):Prop where
 opn:h.opn.length<=n
 aG:I64 h.aG
 next:I64 h.next
theorem LW {h:Hd} {n:Nat} (k:EA h n) (r:Rc):EA (b_ h r) (n+1):=by
 have h1:=k.opn;unfold b_;split
 ·exact⟨by show h.opn.length<=_;omega,Qx _,k.next⟩
 ·split
  ·exact⟨by simp;omega,k.aG,k.next⟩
  ·split
   ·exact⟨Nat.le_trans (List.length_filter_le _ _) δ,k.aG,k.next⟩
   ·exact⟨δ,k.aG,k.next⟩
theorem Ho {v:Value} {l:List Rc} (w:World) (hv:UD w.cell? v l) (hm:l.length*64<=140737488351232) (hp:∀r∈l,r.parts.length*24<=140737488355328):
  Calls Tryz.prog 70 #[v] w fun e w'=>∃v',e=.returned v'/\Of Ty.hd (ov (fun _=>none) w w') v' (bT l)/\Grow w w':=by
 have HOWN:=η (yA (w.alloc (.cells Lh 29)) (hv.mono ((Grow.refl w).alloc _).sub) δ hp);have HM:=η hm;have HP:=η hp;obtain⟨al0,cl0,rfl,-⟩:=hv;have hlm:l.length<=2199023255489:=by omega
 clear hm hp;go_enter Tryz.func70,Tryz.ntmps70;go_wp2_with fail
 refine HOWN.o.mono ?_;rintro e w1 ⟨vl,rfl,hown,hb1⟩;obtain⟨al,cl,rfl⟩:=hown.form;have HOW:=η hown;have HB1:=η hb1;have z1:w.heap.size+1<=w1.heap.size:=by have:=hb1.size;simpa using this
 clear hown hb1;go_wp2;go_loopw [12] (fun i wr=>∃(k:Nat) (h:Hd) (vo:Value),k<=l.length/\i=ι k/\(l.take k).foldl b_ ⟨l,0,0,[]⟩=h/\wu w w1 wr (ς al l.length cl) vo l h/\EA h k) (fun i _=>l.length - (intOf i).toNat)
 case atStart=>
  refine⟨0,⟨l,0,0,[]⟩,(),δ,rfl,rfl,?_,⟨σ,fP,fP⟩⟩;have hl:=HOW.o.lt;refine⟨aj (aF w _) (HB1.o.alloc _),aF _ _,?_,aI.nil _ _ _ _ _,((Grow.refl w).alloc _).trans (HB1.o.alloc _),σ,fun k hk=>(hl k hk).2,z1⟩;have hs0:(w.alloc (.cells Lh 29)).heap.size=w.heap.size+1:=by simp
  have h2:=HOW.o;rw [hs0] at h2;refine(h2.mono fun a u e=>?_).grow ((Grow.refl _).alloc _);unfold fr at e;split at e
  ·cases e
  ·rename_i hn
   have hlt:=World.block_lt_of_cell? w1 a e;rw [hs0] at hn;unfold Ac;rw [gy δ]
   ·exact((Grow.refl w1).alloc _).sub _ _ e
   ·simp only [List.mem_cons,List.not_mem_nil,or_false,not_or]
    refine⟨fun e=>hn (.inr (by simp [e])),by simp [Value.ownBlock],fun e=>?_,fun e=>?_⟩
    ·have:=Option.some.inj e;exact hn (.inl δ)
    ·have:=Option.some.inj e;omega
 case round=>
  obtain⟨k,h,vo,hk',rfl,hfold,hbox,hok⟩:=hrel;obtain⟨ar,cr,rfl⟩:=hbox.opn.form;have Tz:=η hfold;have gW:=η hbox;have La:=η hok;have z3:=hbox.size;have z4:w1.heap.size<wr:=by omega
  by_cases hlt:k<l.length
  ·obtain⟨gl,cs,rfl,⟨vp,rfl,i0,i1,hP⟩,hA⟩:=hbox.log.get ε k hlt
   have hP':=hP.mono (fF _ _ _);obtain⟨ap,cp,rfl,-⟩:=id hP';have c0:=hA 0 _ rfl;have c1:=hA 1 _ rfl;have c2:=hA 2 _ rfl;simp only [Nat.add_zero,Ty.rc] at c0 c1 c2;have htk:(l.take (k+1)).foldl b_ ⟨l,0,0,[]⟩=b_ h l[k]:=by rw [List.take_succ_eq_append_getElem hlt,List.foldl_append,Tz.o];rfl
   have kY:=η htk;have hpl:=HP.o l[k] (List.getElem_mem _);have CS:=η (fun(W:World) (hW:Grow wr W)=>pz W (hP'.mono hW.sub) hpl);have HI:=η (And.intro i0 (And.intro i1 (m_.ok (c:=wr.cell?) hP')));have yF:=η (LW hok l[k]);have NT:Hid (h.opn.length<2199023255489):=η (τ hok.opn);have S_:Hid (∀q,(Value.slice ar h.opn.length cr).ownBlock=some q->q<wr.heap.size):=fun q hq=>(hbox.opn.lt q hq).2;clear hfold hok htk hpl hP hP' hA i0 i1 hbox;generalize l[k]=r at*;obtain⟨s0,s1,s2,s3⟩:=cells4 gW.o.row;have sf:=dA gW.o.row;by_cases k4:r.kind=4
   ·have b4:(r.kind==4)=true:=by simp [k4]
    have b5:(r.kind==5)=false:=by simp [k4]
    have b6:(r.kind==6)=false:=by simp [k4]
    have hst:b_ h r={ h with aG:=wrap64 (h.aG+1) }:=by unfold b_;rw [if_pos k4]
    have xW:=η (kY.o.trans hst);have qp:=η (hst▸yF.o);clear hst k4;have HX:=(wu.aG gW.o (Grow.refl wr) (wrap64 (h.aG+1))).later ((Grow.refl _).alloc (.cells #[ι r.kind,ι r.deed,ς ap r.parts.length cp] 79));go_wp2;go_roundw
    case rel=>exact⟨k+1,_,_,δ,by go_num,xW.o,HX,qp.o⟩
    case measure=>simp [intOf];omega
   ·have b4:(r.kind==4)=false:=by simp [k4]
    by_cases k5:r.kind=5
    ·have b5:(r.kind==5)=true:=by simp [k5]
     have b6:(r.kind==6)=false:=by simp [k5]
     have hst:b_ h r={ h with opn:=h.opn++ [⟨r.deed,r.parts,true,[]⟩] }:=by unfold b_;rw [if_neg k4,if_pos k5]
     have xW:=η (kY.o.trans hst);have qp:=η (hst▸yF.o);clear hst k4 k5;go_wp2;obtain⟨w2,aL⟩:∃x:World,x=wr.alloc (.cells #[ι r.kind,ι r.deed,ς ap r.parts.length cp] 79):=⟨_,rfl⟩;rw [<-aL];have HG2:Hid (Grow wr w2):=η (by rw [aL];exact(Grow.refl wr).alloc _);have r5:w2.heap[wr.heap.size]? =some (.cells #[ι r.kind,ι r.deed,ς ap r.parts.length cp] 79 (0,0)):=by rw [aL];exact aF _ _
     have xX:=η r5;clear aL r5 s0 s1 s2 s3;have HB2:=η (gW.o.later HG2.o);obtain⟨s0,s1,s2,s3⟩:=cells4 HB2.o.row;obtain⟨q0,q1,q2⟩:=cells3 xX.o;have l3:w1.heap.size<w2:=by have:=HB2.o.size;omega
     have l5:wr.heap.size<w2:=(γ xX.o);have n3:(Value.slice ar h.opn.length cr).ownBlock≠some w1.heap.size:=fun e=>by have:=(HB2.o.opn.lt _ e).1;omega
     have n5:(Value.slice ar h.opn.length cr).ownBlock≠some wr.heap.size:=fun e=>by have:=S_.o _ e;omega
     have HS:Hid (∀W,w2.grownBy W (Value.slice ar h.opn.length cr).ownBlock->W.cell? ⟨w1.heap.size,3,none⟩=some (ς ar h.opn.length cr)/\W.cell? ⟨wr.heap.size,1,none⟩=some (ι r.deed)/\W.cell? ⟨wr.heap.size,2,none⟩=some (ς ap r.parts.length cp)):=fun W hW=>⟨by rw [World.cell?_of_block (hW.block w1.heap.size l3 (fun e=>n3 e.symm))];exact s3,by rw [World.cell?_of_block (hW.block wr.heap.size l5 (fun e=>n5 e.symm))];exact q1,by rw [World.cell?_of_block (hW.block wr.heap.size l5 (fun e=>n5 e.symm))];exact q2⟩;clear s0 s1 s2 s3 q0 q1 q2;refine bf (fun w'=>w'.cell? ⟨w1.heap.size,3,none⟩=some (ς ar h.opn.length cr)/\w'.cell? ⟨wr.heap.size,1,none⟩=some (ι r.deed)/\w'.cell? ⟨wr.heap.size,2,none⟩=some (ς ap r.parts.length cp)) 11 κ ?_;obtain⟨wd,hWd⟩:∃x:World,x=w2.drew:=⟨_,rfl⟩;rw [<-hWd];have GD:Grow w2 wd:=by rw [hWd];exact(Grow.refl _).drew
     have zD:w2.heap.size=wd.heap.size:=by rw [hWd];rfl
     have ZD:=η zD;clear hWd zD;refine ni [0,1,2,3,4,5] 8 κ (fun _ _ _ _ _ h=>h) (HS.o _ (ak GD _)) ?_;repeat (refine gQ ?_;try simp only [aK])
     refine ny ?_;refine bO 6 κ rfl ?_;intro K HK;try simp only [aV]
     go_simp;go_at_call 73
     refine(CS.o _ (HG2.o.trans GD)).mono ?_;rintro e w3 ⟨v3,rfl,ho3,hb3⟩;obtain⟨a3,c3,rfl⟩:=aY ho3;have nC:=η ho3;have G3:=GD.trans hb3;clear ho3 hb3;refine HK.o _ _ ⟨fun _=>HS.o _ (ak G3 _),?_⟩;clear HK K;try simp only [aK]
     refine bO 7 κ rfl ?_;intro K HK;try simp only [aV]
     go_simp;refine HK.o _ _ ⟨fun _=>HS.o _ (ak G3 _),?_⟩;clear HK K;try simp only [aK]
     refine bO 8 κ rfl ?_;intro K HK;try simp only [aV]
     go_simp;refine HK.o _ _ ⟨fun _=>HS.o _ (ak (G3.alloc _) _),?_⟩;clear HK K;try simp only [aK]
     refine bO 9 κ rfl ?_;intro K HK;refine aC rfl ?_;try simp only [aV]
     have bA:=HB2.o.later (w':=(w3.alloc (.cells #[ι r.deed,ς a3 r.parts.length c3,.bool true,()] 58))) (G3.alloc _);have YH:Ty.opn.R (Ac w w1 (w3.alloc (.cells #[ι r.deed,ς a3 r.parts.length c3,.bool true,()] 58)) (ς (some ⟨gl,0,none⟩) l.length cl) (Value.slice ar h.opn.length cr)) (#[ι r.deed,ς a3 r.parts.length c3,.bool true,()]:Array Value).toList ⟨r.deed,r.parts,true,[]⟩:=by
      refine⟨_,_,rfl,HI.o.2.1,I4 (w1:=wd) ((nC.o).kept (ak ((Grow.refl _).alloc _) none) (by cases (Value.slice a3 r.parts.length c3).ownBlock<;>simp)) HI.o.2.2 (by have:=HB2.o.grow.size;have:=GD.size;omega) fun q hq=>?_,Sl.nil _ _⟩;have z1:=HB2.o.opn.lt;have z2:=HB2.o.log.lt;have z4:=HB2.o.size;have z5:=HB2.o.w1;have z6:=GD.size;simp only [List.mem_cons,List.not_mem_nil,or_false,not_or];exact⟨fun e=>by have:=(z2 q e.symm).2;omega,fun e=>by have:=(z1 q e.symm).2;omega,fun e=>by have:=Option.some.inj e;omega,fun e=>by have:=Option.some.inj e;omega⟩
     have dT:=η YH;have d7:=η bA;clear YH bA;refine dD (c:=(Ac w w1 (w3.alloc (.cells #[ι r.deed,ς a3 r.parts.length c3,.bool true,()] 58)) (ς (some ⟨gl,0,none⟩) l.length cl) (Value.slice ar h.opn.length cr))) (base:=w1.heap.size+1) (l:=h.opn) (m:=[⟨r.deed,r.parts,true,[]⟩]) h_ rfl fZ ε (.tmp 27) (.tmp 34) rfl rfl d7.o.opn rfl (Src.bQ (T:=Ty.opn) (cs:=#[ι r.deed,ς a3 r.parts.length c3,.bool true,()]) dT.o _ _ rfl) (by have:=NT.o;simp;omega) d7.o.size ?_;intro a9 c9 w9 fB eF gI;have iF:=η fB;have jL:=η eF;have sU:=η gI;have QL:=η (grownBy_trans (ak (G3.alloc _) _) eF);obtain⟨t5,-,-⟩:=HS.o _ QL.o;have tf:∀o,w9.frozen? ⟨w1.heap.size,o,none⟩=false:=dA (aH d7.o.row eF (fun e=>n3 e.symm));have t9:w1.heap.size<w9:=World.block_lt_of_cell? w9 _ t5;clear fB eF gI;refine HK.o _ _ ⟨fun _=>HS.o _ QL.o,?_⟩;clear HK K;try simp only [aK]
     refine bO 10 κ rfl ?_;intro K HK;try simp only [aV]
     go_simp;refine HK.o _ _ ⟨fun _=>HS.o _ QL.o,?_⟩;clear HK K;try simp only [aK]
     refine bO 11 κ rfl ?_;intro K HK;try simp only [aV]
     go_simp;refine HK.o _ _ ⟨fun h=>absurd rfl h,?_⟩;clear HK K;try simp only [aK]
     refine aO κ ?_;have HX:=wu.Lj HB2.o (G3.alloc _) iF.o jL.o (sU.o.imp_right fun⟨g,e,hge⟩=>⟨g,e,by simpa using hge⟩);go_wp2;go_roundw
     case rel=>exact⟨k+1,_,_,δ,by go_num,xW.o,HX,qp.o⟩
     case measure=>simp [intOf];omega
    ·have b5:(r.kind==5)=false:=by simp [k5]
     by_cases k6:r.kind=6
     ·have b6:(r.kind==6)=true:=by simp [k6]
      have hst:b_ h r={ h with opn:=h.opn.filter fun o=>!(o.deed==r.deed) }:=by unfold b_;rw [if_neg k4,if_neg k5,if_pos k6]
      have xW:=η (kY.o.trans hst);have qp:=η (hst▸yF.o);clear hst k4 k5 k6;go_wp2_with fail
      have HG2:Hid (Grow wr (wr.alloc (.cells #[ι r.kind,ι r.deed,ς ap r.parts.length cp] 79))):=η ((Grow.refl wr).alloc _);have HB2:=η (gW.o.later HG2.o);have n3:(Value.slice ar h.opn.length cr).ownBlock≠some w1.heap.size:=fun e=>by have:=(HB2.o.opn.lt _ e).1;omega
      refine(rM (p:=fun o=>o.deed==r.deed) (c:=Ac w w1 (wr.alloc (.cells #[ι r.kind,ι r.deed,ς ap r.parts.length cp] 79)) (ς (some ⟨gl,0,none⟩) l.length cl) (Value.slice ar h.opn.length cr)) ?_ HB2.o.opn (Ll _ _ wr.heap.size r.deed _ (by rw [World.cell?_alloc_new];rfl) σ (fun e=>by have:=S_.o _ e;omega))).mono ?_
      ·intro a u e
       unfold Ac fr at e;split at e
       ·cases e
       ·rename_i hn
        unfold mM;rw [if_neg (fun e=>hn (.inr (by simp [e])))];exact e
      rintro e w7 ⟨v7,rfl,r_,su,hb7⟩;obtain⟨a7,c7,rfl⟩:=r_.form;have t7:=aH HB2.o.row su (fun e=>n3 e.symm);have HX:=η (wu.Lj HB2.o (Grow.refl _) r_ su (.inl hb7));clear s0 s1 s2 s3 sf r_ su hb7;obtain⟨u0,u1,u2,u3⟩:=cells4 t7;have uf:=dA t7;have u9:w1.heap.size<w7:=(γ t7);clear t7;go_wp2;go_roundw
      case rel=>exact⟨k+1,_,_,δ,by go_num,xW.o,HX.o,qp.o⟩
      case measure=>simp [intOf];omega
     ·have b6:(r.kind==6)=false:=by simp [k6]
      have hst:b_ h r=h:=by unfold b_;rw [if_neg k4,if_neg k5,if_neg k6]
      have xW:=η (kY.o.trans hst);have qp:=η (hst▸yF.o);clear hst k4 k5 k6;go_wp2;go_roundw
      case rel=>exact⟨k+1,_,_,δ,by go_num,xW.o,gW.o.later ((Grow.refl wr).alloc _),qp.o⟩
      case measure=>simp [intOf];omega
  ·have HH:Hid (h=bT l):=by show h=_;rw [<-Tz.o,List.take_of_length_le δ];rfl
   obtain⟨s0,s1,s2,s3⟩:=cells4 hbox.row;clear hfold hok hbox;go_wp2_with (first|(refine wpList_store_row rfl (.tmp 2) (.tmp 45) rfl rfl rfl gW.o.res bU rfl rfl ?_))
   intro wf r2 g2;obtain⟨p0,p1,p2,p3⟩:=cells4 r2;have pf:=dA r2;clear s0 s1 s2 s3;go_wp2;refine bodyPost_ret (v:=.agg #[ς al l.length cl,ι h.aG,ι h.next,ς ar h.opn.length cr]) (by simp [results,Tryz.results70,go_sem,p0,p1,p2,p3]) rfl ?_;have nY:h.log=l:=by rw [HH.o];exact(xu l).2
   have sub:Sub (Ac w w1 wr (ς al l.length cl) (ς ar h.opn.length cr)) (ov (fun _=>none) w wf):=fun a u e=>by
    unfold Ac fr at e;split at e
    ·cases e
    ·rename_i hn
     have hne:a.block≠w.heap.size:=fun e=>hn (.inr (by simp [e]));rw [bH δ,dh g2 (World.block_lt_of_cell? wr a e) hne];exact e
   have hb:∀k,w.heap.size+1<=k->k<wr.heap.size->wf.heap[k]? =wr.heap[k]?:=fun k h1 h2=>g2.block k h2 (by simp;omega);have hw1:=gW.o.w1;have e1:=((gW.o.log.mono sub).block fun k hk=>hb k (gW.o.log.lt k hk).1 (gW.o.log.lt k hk).2).slc ε (Sub.refl _) fun a ha=>bH δ;have e2:=((gW.o.opn.mono sub).block fun k hk=>hb k (τ ((gW.o.opn.lt k hk).1)) (gW.o.opn.lt k hk).2).slc ε (Sub.refl _) fun a ha=>bH δ;rw [<-HH.o];refine⟨_,rfl,⟨_,rfl,_,_,rfl,?_,La.o.aG,La.o.next,e2⟩,gW.o.grow.grown g2 (fun k hk=>by simp at hk;omega)⟩;rw [nY];exact e1
def nS (r:Rc) (o:Opn):Bool:=!(r.kind==6&&o.deed==r.deed)
theorem EL {r:Rc} (h:¬r.kind=6) (l:List Opn):l.filter (nS r)=l:=by
 rw [List.filter_eq_self];intro o _;simp [nS,h]
theorem WL {r:Rc} (h:r.kind=6) (l:List Opn):l.filter (nS r)=l.filter fun o=>!(o.deed==r.deed):=by
 refine List.filter_congr fun o _=>?_;simp [nS,h]
theorem rW (q:Opn->Bool) {l:List Opn} {j:Nat} (h:j<l.length):(l.take (j+1)).filter q=if q l[j]=true then(l.take j).filter q++ [l[j]] else(l.take j).filter q:=by
 rw [List.take_succ_eq_append_getElem h,List.filter_append];by_cases hq:q l[j]=true<;>simp [hq]
structure CJ (c:CM) (w wr:World) (vl vo:Value) (h:Hd):Prop where
 res:wr.heap[w.heap.size]? =some (.cells Lh 29 (0,0))
 row:wr.heap[w.heap.size+1]? =some (.cells #[vl,ι h.aG,ι h.next,vo] 29 (0,0))
 opn:aI Ty.opn c wr (w.heap.size+2) 58 vo h.opn
 grow:Grow w wr
 size:w.heap.size+2<=wr.heap.size
theorem CJ.later {c:CM} {w wr w':World} {vl vo:Value} {h:Hd} (b:CJ c w wr vl vo h) (hg:Grow wr w'):CJ c w w' vl vo h:=
 ⟨aj b.res hg,aj b.row hg,b.opn.grow hg,b.grow.trans hg,Nat.le_trans b.size hg.size⟩
theorem CJ.Lj {c:CM} {w wr w':World} {vl vo jZ:Value} {h:Hd} {os:List Opn} {row:Option Nat} (b:CJ c w wr vl vo h) (hg:wr.grownBy w' row) (hr:∀k,row=some k->w.heap.size+2<=k) (ho:aI Ty.opn c w' (w.heap.size+2) 58 jZ os):
  CJ c w (w'.setCell ⟨w.heap.size+1,3,none⟩ jZ) vl jZ { h with opn:=os }:=by
 have hs:=b.size;have hB:∀k,k≠w.heap.size+1->(w'.setCell ⟨w.heap.size+1,3,none⟩ jZ).heap[k]? =w'.heap[k]?:=fun k hk=>Below.heap_setCell _ _ _ _ (fun e=>hk e);refine⟨?_,DY (aH b.row hg (fun e=>by have:=hr _ e.symm;omega)) _,ho.block fun k hk=>hB k (τ ((ho.lt k hk).1)),(b.grow.grown hg (fun k hk=>by have:=hr k hk;omega)).setCell σ _,?_⟩
 ·rw [hB _ δ];exact aH b.res hg (fun e=>by have:=hr _ e.symm;omega)
 ·have:=hg.size;simp;omega
theorem CJ.aG {c:CM} {w wr:World} {vl vo:Value} {h:Hd} (b:CJ c w wr vl vo h) (x:Int):CJ c w (wr.setCell ⟨w.heap.size+1,1,none⟩ (ι x)) vl vo { h with aG:=x }:=by
 have hs:=b.size;have hB:∀k,k≠w.heap.size+1->(wr.setCell ⟨w.heap.size+1,1,none⟩ (ι x)).heap[k]? =wr.heap[k]?:=fun k hk=>Below.heap_setCell _ _ _ _ (fun e=>hk e);exact⟨by rw [hB _ δ];exact b.res,DZ b.row _,b.opn.block fun k hk=>hB k (τ ((b.opn.lt k hk).1)),b.grow.setCell σ _,by simpa using b.size⟩
theorem qg {c:CM} {v:Value} {l:List Rc} (w:World) (hc:Sub c w.cell?) (hv:UD c v l) (hm:l.length*64<=140737488351232):
  Calls Tryz.prog 39 #[v] w fun e w'=>∃v',e=.returned v'/\Of Ty.hd (ov c w w') v' (bT l)/\Grow w w':=by
 have HC:=η hc;have HV:=η hv;obtain⟨al,cl,rfl,h1,h2,-,hel⟩:=hv;have hlm:l.length<=2199023255489:=by omega
 clear hm;go_enter Tryz.func39,Tryz.ntmps39;go_wp2;go_loopw [13] (fun i wr=>∃(k:Nat) (h:Hd) (vo:Value),k<=l.length/\i=ι k/\(l.take k).foldl b_ ⟨l,0,0,[]⟩=h/\CJ c w wr (ς al l.length cl) vo h/\EA h k) (fun i _=>l.length - (intOf i).toNat)
 case atStart=>
  exact⟨0,⟨l,0,0,[]⟩,(),δ,rfl,rfl,⟨aB (aF _ _) _,by simpa using aF (w.alloc (.cells Lh 29)) (.cells #[ς al l.length cl,ι 0,ι 0,()] 29),aI.nil _ _ _ _ _,((Grow.refl w).alloc _).alloc _,σ⟩,⟨σ,fP,fP⟩⟩
 case round=>
  obtain⟨wo,rfl⟩:∃x:World,x=wr:=⟨_,rfl⟩;obtain⟨k,h,vo,hk',rfl,hfold,hbox,hok⟩:=hrel;obtain⟨ar,cr,rfl⟩:=hbox.opn.form;have Tz:=η hfold;have gW:=η hbox;have La:=η hok;have z3:=hbox.size;have z4:w.heap.size+1<wo:=by omega
  have z5:w.heap.size<wo:=by omega
  obtain⟨s0,s1,s2,s3⟩:=cells4 hbox.row;have sf:=dA hbox.row;by_cases hlt:k<l.length
  ·obtain⟨b,o,vp,rfl,c0,c1,c2,i0,i1,hP⟩:=UD.at_ hel k hlt
   obtain⟨ap,cp,rfl,-⟩:=id hP;replace c0:=hbox.grow.sub _ _ (hc _ _ c0);replace c1:=hbox.grow.sub _ _ (hc _ _ c1);replace c2:=hbox.grow.sub _ _ (hc _ _ c2);have htk:(l.take (k+1)).foldl b_ ⟨l,0,0,[]⟩=b_ h l[k]:=by rw [List.take_succ_eq_append_getElem hlt,List.foldl_append,Tz.o];rfl
   have kY:=η htk;have yF:=η (LW hok l[k]);have HI:=η (And.intro i1 hP);have hrl:h.opn.length<=2199023255489:=by have:=hok.opn;omega
   clear hfold hok htk hP i0 i1 hbox hel;generalize l[k]=r at*;go_wp2;go_loopw [6,20] (fun s6 i wx=>∃m:Nat,m<=h.opn.length/\i=ι m/\Grow (wo.alloc (.cells #[ι r.kind,ι r.deed,ς ap r.parts.length cp] 79)) wx/\aI Ty.opn c wx (wo.heap.size+1) 58 s6 ((h.opn.take m).filter (nS r))) (fun _ i _=>h.opn.length - (intOf i).toNat)
   case atStart=>exact⟨0,δ,rfl,Grow.refl _,aI.nil _ _ _ _ _⟩
   case round=>
    obtain⟨wx,rfl⟩:∃x:World,x=wr:=⟨_,rfl⟩;obtain⟨m,hm',rfl,hbx,hown⟩:=hrel;have HG:=η (((Grow.refl wo).alloc (.cells #[ι r.kind,ι r.deed,ς ap r.parts.length cp] 79)).trans hbx);obtain⟨q0,q1,q2⟩:=cells3 (aj (aF wo (.cells #[ι r.kind,ι r.deed,ς ap r.parts.length cp] 79)) hbx);have q9:wo.heap.size<wx:=by have:=hbx.size;simp at this;omega
    have HOWN:=η hown;obtain⟨av,cv,rfl⟩:=hown.form;have hfl:((h.opn.take m).filter (nS r)).length<=h.opn.length:=Nat.le_trans (List.length_filter_le _ _) (by simp;omega);have IQ:=η hfl;clear hown c0 c1 c2 s0 s1 s2 s3 sf hfl;by_cases hlm:m<h.opn.length
    ·obtain⟨gx,csx,rfl,⟨vx,vh,rfl,j0,j1,j2⟩,hAx⟩:=gW.o.opn.get ε m hlm
     obtain⟨ax,cx,rfl,-⟩:=id j1;obtain⟨ah,ch,rfl,-⟩:=id j2;have x0:=HG.o.sub _ _ (hAx 0 _ rfl);have x1:=HG.o.sub _ _ (hAx 1 _ rfl);have x2:=HG.o.sub _ _ (hAx 2 _ rfl);have x3:=HG.o.sub _ _ (hAx 3 _ rfl);simp only [Ty.opn,Nat.add_zero] at x0 x1 x2 x3;have qI:=η (rW (nS r) hlm);have HJ:=η (And.intro j0 (And.intro j1 j2));clear hAx j0 j1 j2;generalize h.opn[m]=q at*;generalize (h.opn.take m).filter (nS r)=fs at*;by_cases hq:nS r q=true
     ·have HQ:=η hq
      have hcase:(r.kind !=6)=true∨((r.kind !=6)=false/\(q.deed !=r.deed)=true):=by
       by_cases h6:r.kind=6
       ·right
        simp [nS,h6] at hq;exact⟨by simp [h6],by simpa using hq⟩
       ·left;simp [h6]
      clear hq;rcases hcase with b6|⟨b6,bd⟩
      all_goals
       go_wp2_with (first|(at_builtin;refine aZ (c:=c) (base:=wo.heap.size+1) (l:=fs) (m:=[q]) h_ rfl fZ ε rfl (.tmp 34) (.tmp 36) rfl rfl ?own rfl (Src.bQ (T:=Ty.opn) (cs:=#[ι q.deed,ς ax q.parts.length cx,.bool q.dec,ς ah q.heard.length ch]) ⟨_,_,rfl,HJ.o.1,HJ.o.2.1,HJ.o.2.2⟩ _ _ ?d1) ?d2 ?d3 ?_))
       case own=>exact HOWN.o.grow (((Grow.refl _).alloc _).alloc _)
       case d1=>simp
       case d2=>have:=IQ.o;simp;omega
       case d3=>have:=HG.o.size;simp;omega
       intro a9 c9 w9 fB eF gI;have jL:=η (bn (w0:=wo.alloc (.cells #[ι r.kind,ι r.deed,ς ap r.parts.length cp] 79)) ((hbx.alloc _).alloc _) eF (fun q hq=>by have:=(HOWN.o.lt q hq).1;simpa using this));have iF:=η fB;clear fB eF gI;go_wp2;go_roundw
       case rel=>exact⟨m+1,δ,by go_num,jL.o,by rw [qI.o,if_pos HQ.o];exact iF.o⟩
       case measure=>simp [intOf];omega
     ·have HQ:=η hq
      have h6:r.kind=6/\q.deed=r.deed:=by
       simp [nS] at hq;exact hq
      have b6:(r.kind !=6)=false:=by simp [h6.1]
      have bd:(q.deed !=r.deed)=false:=by simp [h6.2]
      clear hq h6;go_wp2;go_roundw
      case rel=>exact⟨m+1,δ,by go_num,hbx.alloc _,by rw [qI.o,if_neg HQ.o];exact HOWN.o.grow ((Grow.refl _).alloc _)⟩
      case measure=>simp [intOf];omega
    ·have hfin:(h.opn.take m).filter (nS r)=h.opn.filter (nS r):=by rw [List.take_of_length_le δ]
     have LS:Hid (aI Ty.opn c wx (wo.heap.size+1) 58 (ς av (h.opn.filter (nS r)).length cv) (h.opn.filter (nS r))):=by
      have:=HOWN.o;rw [hfin] at this;exact η this
     rw [hfin];have hf2:(h.opn.filter (nS r)).length<=2199023255489:=Nat.le_trans (List.length_filter_le _ _) hrl;clear hfin;have b2:=gW.o.later HG.o;obtain⟨s0,s1,s2,s3⟩:=cells4 b2.row;have sf:=dA b2.row;have zz:w.heap.size+1<wx:=by have:=b2.size;omega
     have HR:=η (CJ.Lj (row:=none) b2 (ak (Grow.refl wx) none) σ (LS.o.base δ));have Bv:=η (b2.grow);clear b2;generalize hfs:h.opn.filter (nS r)=fs at*;have LT:=η hfs;clear hfs;have q9':w.heap.size+1≠wo.heap.size:=by omega
     by_cases k4:r.kind=4
     ·have b4:(r.kind==4)=true:=by simp [k4]
      have b5:(r.kind==5)=false:=by simp [k4]
      have hst:b_ h r={ h with opn:=fs,aG:=wrap64 (h.aG+1) }:=by unfold b_;rw [if_pos k4,<-LT.o,EL δ]
      have xW:=η (kY.o.trans hst);have qp:=η (hst▸yF.o);clear hst k4;go_wp2;go_roundw
      case rel=>exact⟨k+1,_,_,δ,by go_num,xW.o,HR.o.aG _,qp.o⟩
      case measure=>simp [intOf];omega
     ·have b4:(r.kind==4)=false:=by simp [k4]
      by_cases k5:r.kind=5
      ·have b5:(r.kind==5)=true:=by simp [k5]
       have hst:b_ h r={ h with opn:=fs++ [⟨r.deed,r.parts,true,[]⟩] }:=by unfold b_;rw [if_neg k4,if_pos k5,<-LT.o,EL δ]
       have xW:=η (kY.o.trans hst);have qp:=η (hst▸yF.o);clear hst k4 k5;go_wp2_with (first|(at_builtin;refine aZ (c:=c) (base:=w.heap.size+2) (l:=fs) (m:=[⟨r.deed,r.parts,true,[]⟩]) h_ rfl fZ ε rfl (.tmp 52) (.tmp 58) rfl rfl ?own rfl (Src.bQ (T:=Ty.opn) (cs:=#[ι r.deed,ς ap r.parts.length cp,.bool true,()]) ⟨_,_,rfl,HI.o.1,HI.o.2,Sl.nil _ _⟩ _ _ ?d1) ?d2 ?d3 ?_))
       case own=>exact HR.o.opn.grow ((Grow.refl _).alloc _)
       case d1=>simp
       case d2=>simp;omega
       case d3=>have:=HR.o.size;simp at this ⊢;omega
       intro a9 c9 w9 fB eF gI;have gF:∀q,(Value.slice av fs.length cv).ownBlock=some q->w.heap.size+2<=q:=fun q hq=>(HR.o.opn.lt q hq).1;have t9:=aH (aj HR.o.row ((Grow.refl _).alloc (.cells #[ι r.deed,ς ap r.parts.length cp,.bool true,()] 58))) eF (fun e=>by have:=gF _ e.symm;omega);have HX:=η (CJ.Lj HR.o (grownBy_trans (ak ((Grow.refl _).alloc _) _) eF) gF fB);clear s0 s1 s2 s3 sf eF fB gI gF;obtain⟨s0,s1,s2,s3⟩:=cells4 t9;have sf:=dA t9;have s9:w.heap.size+1<w9:=(γ t9);clear t9;go_wp2;go_roundw
       case rel=>exact⟨k+1,_,_,δ,by go_num,xW.o,HX.o,qp.o⟩
       case measure=>simp [intOf];omega
      ·have b5:(r.kind==5)=false:=by simp [k5]
       have hst:b_ h r={ h with opn:=fs }:=by
        unfold b_;rw [if_neg k4,if_neg k5,<-LT.o];by_cases k6:r.kind=6
        ·rw [if_pos k6,WL k6]
        ·rw [if_neg k6,EL k6]
       have xW:=η (kY.o.trans hst);have qp:=η (hst▸yF.o);clear hst k4 k5;go_wp2;go_roundw
       case rel=>exact⟨k+1,_,_,δ,by go_num,xW.o,HR.o,qp.o⟩
       case measure=>simp [intOf];omega
  ·have HH:Hid (h=bT l):=by show h=_;rw [<-Tz.o,List.take_of_length_le δ];rfl
   clear hfold hok hbox hel;go_wp2_with (first|(refine wpList_store_row rfl (.tmp 2) (.tmp 62) rfl rfl rfl gW.o.res bU rfl rfl ?_))
   intro wf r2 g2;obtain⟨p0,p1,p2,p3⟩:=cells4 r2;have pf:=dA r2;clear s0 s1 s2 s3 sf;go_wp2;refine bodyPost_ret (v:=.agg #[ς al l.length cl,ι h.aG,ι h.next,ς ar h.opn.length cr]) (by simp [results,Tryz.results39,go_sem,p0,p1,p2,p3]) rfl ?_;have nY:h.log=l:=by rw [HH.o];exact(xu l).2
   have e2:=((gW.o.opn.mono (dM HC.o)).block fun k hk=>g2.block k (gW.o.opn.lt k hk).2 (by have:=(gW.o.opn.lt k hk).1;simp;omega)).slc ε (Sub.refl _) fun a ha=>bH δ;rw [<-HH.o];refine⟨_,rfl,⟨_,rfl,_,_,rfl,?_,La.o.aG,La.o.next,e2⟩,gW.o.grow.grown g2 (fun k hk=>by simp at hk;omega)⟩;rw [nY];exact HV.o.mono (dM HC.o)
theorem Nq {c:CM} {v vm:Value} {h:Hs} {dd hh me:Int} {ps:List Pt} (w:World) (hc:Sub c w.cell?) (hv:Of Ty.hs c v h) (hm:Of Ty.ms c vm ⟨1,dd,hh,ps⟩) (hk:∀x∈h.log,dw x.parts) (hkm:dw ps) (hn:(h.log.length+1)*40<=140737488355328) (hme:I64 me) (e10:dU h dd ps=10):
  Calls Tryz.prog 53 #[v,ι me,vm] w fun e w'=>∃v1 v2,e=.returned (.tuple #[v1,v2])/\Of Ty.hs (ov c w w') v1 (bg h ⟨1,dd,hh,ps⟩)/\Sl Ty.ms (ov c w w') v2 (bG h me ⟨1,dd,hh,ps⟩)/\Grow w w':=by
 obtain⟨al,cl,ar,cr,ad,cd,rfl⟩:=hv.dF;obtain⟨ap,cp,rfl⟩:∃ap cp,vm=.agg #[ι 1,ι dd,ι hh,ς ap ps.length cp]:=hm.fQ;have hms:Sl Ty.pt c (ς ap ps.length cp) ps/\I64 1/\I64 dd/\I64 hh:=Of.iG hm;have lM:=η hms;have Hq:=η hv;have HC:=η hc;have NR:=η hk;have Yo:=η hkm;have HN:=η hn;have CW:=η hme;have J9:=η (fun(W:World) (hW:Grow w W)=>kS (d:=dd) W (hv.mono (hc.trans hW.sub)) (hms.1.mono (hc.trans hW.sub)) hkm);have vZ:=η (fun(W:World) (hW:Grow w W)=>jf (d:=dd) W (hv.mono (hc.trans hW.sub)));have sS:=η (fun(W:World) (hW:Grow w W)=>kQ (n:=dd) W ((Of.iw hv).2.2.mono (hc.trans hW.sub)));have jq:Hid (Grow w (((w.alloc (.cells #[ς al h.log.length cl,ι h.sums.a,ι h.sums.b,ι h.sums.c,ι h.sums.d,ς ar h.ready.length cr,ς ad h.done.length cd] 50)).alloc (.cells #[ι 1,ι dd,ι hh,ς ap ps.length cp] 85)).alloc (.cells #[(),ι 0,ι 0,ι 0,ι 0,(),()] 50))):=η ((((Grow.refl w).alloc _).alloc _).alloc _);have HR3:Hid ((((w.alloc (.cells #[ς al h.log.length cl,ι h.sums.a,ι h.sums.b,ι h.sums.c,ι h.sums.d,ς ar h.ready.length cr,ς ad h.done.length cd] 50)).alloc (.cells #[ι 1,ι dd,ι hh,ς ap ps.length cp] 85)).alloc (.cells #[(),ι 0,ι 0,ι 0,ι 0,(),()] 50)).heap[w.heap.size]? =some (.cells #[ς al h.log.length cl,ι h.sums.a,ι h.sums.b,ι h.sums.c,ι h.sums.d,ς ar h.ready.length cr,ς ad h.done.length cd] 50 (0,0))):=η (aB (aB (aF _ _) _) _);have xX:Hid ((((w.alloc (.cells #[ς al h.log.length cl,ι h.sums.a,ι h.sums.b,ι h.sums.c,ι h.sums.d,ς ar h.ready.length cr,ς ad h.done.length cd] 50)).alloc (.cells #[ι 1,ι dd,ι hh,ς ap ps.length cp] 85)).alloc (.cells #[(),ι 0,ι 0,ι 0,ι 0,(),()] 50)).heap[w.heap.size+1]? =some (.cells #[ι 1,ι dd,ι hh,ς ap ps.length cp] 85 (0,0))):=η (aB (by simpa using aF (w.alloc (.cells #[ς al h.log.length cl,ι h.sums.a,ι h.sums.b,ι h.sums.c,ι h.sums.d,ς ar h.ready.length cr,ς ad h.done.length cd] 50)) _) _);have Gm:Hid ((((w.alloc (.cells #[ς al h.log.length cl,ι h.sums.a,ι h.sums.b,ι h.sums.c,ι h.sums.d,ς ar h.ready.length cr,ς ad h.done.length cd] 50)).alloc (.cells #[ι 1,ι dd,ι hh,ς ap ps.length cp] 85)).alloc (.cells #[(),ι 0,ι 0,ι 0,ι 0,(),()] 50)).heap[w.heap.size+1+1]? =some (.cells #[(),ι 0,ι 0,ι 0,ι 0,(),()] 50 (0,0))):=η (by simpa using aF ((w.alloc (.cells #[ς al h.log.length cl,ι h.sums.a,ι h.sums.b,ι h.sums.c,ι h.sums.d,ς ar h.ready.length cr,ς ad h.done.length cd] 50)).alloc (.cells #[ι 1,ι dd,ι hh,ς ap ps.length cp] 85)) _);clear hv hm hc hk hkm hn hme hms;have qx:Hid (bg h ⟨1,dd,hh,ps⟩=h):=by
  show bg h ⟨1,dd,hh,ps⟩=h;unfold bg;rw [if_pos rfl,if_neg (by show¬(dU h dd ps=0/\_);rw [e10];simp)]
 have qy:Hid (bG h me ⟨1,dd,hh,ps⟩=[]):=by
  show bG h me ⟨1,dd,hh,ps⟩=[];unfold bG;rw [if_pos rfl,if_pos e10]
 have K6:=η e10;clear e10;go_enter Tryz.func53,Tryz.ntmps53;go_wp2_with fail
 refine(J9.o _ jq.o).mono ?_;rw [K6.o];rintro e v1 ⟨rfl,fO⟩;(obtain⟨cL,fv1⟩:=fJ fO;have Nr:w.heap.size<v1:=(ω fO.size);have Ns:w.heap.size+1<v1:=(ω fO.size);have Nu:w.heap.size+1+1<v1:=(ω fO.size);have Az:=η fO;clear fO)
 have R6:=aj Gm.o Az.o;obtain⟨p0,p1,p2,p3,p4,p5,p6⟩:=aT R6;have pf:=dA R6;obtain⟨s0,s1,s2,s3,s4,s5,s6,s7⟩:v1.cell? ⟨w.heap.size,0,none⟩=some (ς al h.log.length cl)/\v1.cell? ⟨w.heap.size,1,none⟩=some (ι h.sums.a)/\v1.cell? ⟨w.heap.size,2,none⟩=some (ι h.sums.b)/\v1.cell? ⟨w.heap.size,3,none⟩=some (ι h.sums.c)/\v1.cell? ⟨w.heap.size,4,none⟩=some (ι h.sums.d)/\v1.cell? ⟨w.heap.size,5,none⟩=some (ς ar h.ready.length cr)/\v1.cell? ⟨w.heap.size,6,none⟩=some (ς ad h.done.length cd)/\v1.cell? ⟨w.heap.size+1,1,none⟩=some (ι dd):=by refine⟨?_,?_,?_,?_,?_,?_,?_,?_⟩<;>go_simp
 clear R6;go_wp2;refine bodyPost_ret (v:=.tuple #[.agg #[ς al h.log.length cl,ι h.sums.a,ι h.sums.b,ι h.sums.c,ι h.sums.d,ς ar h.ready.length cr,ς ad h.done.length cd],()]) (by simp [results,Tryz.results53,go_sem,p0,p1,p2,p3,p4,p5,p6]) rfl ?_;rw [qx.o,qy.o];refine⟨_,_,rfl,?_,Sl.nil _ _,?_⟩
 ·exact Hq.o.mono (dM HC.o)
 ·(repeat (with_reducible refine Grow.setCell ?_ (by first|(simp;done)|(simp;omega)|omega) _))
  exact jq.o.trans Az.o
theorem Qa {c:CM} {v vm:Value} {h:Hs} {dd hh me:Int} {ps:List Pt} (w:World) (hc:Sub c w.cell?) (hv:Of Ty.hs c v h) (hm:Of Ty.ms c vm ⟨1,dd,hh,ps⟩) (hk:∀x∈h.log,dw x.parts) (hkm:dw ps) (hn:(h.log.length+1)*40<=140737488355328) (hme:I64 me) (e0:dU h dd ps=0) (rd:bM h.ready dd=true):
  Calls Tryz.prog 53 #[v,ι me,vm] w fun e w'=>∃v1 v2,e=.returned (.tuple #[v1,v2])/\Of Ty.hs (ov c w w') v1 (bg h ⟨1,dd,hh,ps⟩)/\Sl Ty.ms (ov c w w') v2 (bG h me ⟨1,dd,hh,ps⟩)/\Grow w w':=by
 obtain⟨al,cl,ar,cr,ad,cd,rfl⟩:=hv.dF;obtain⟨ap,cp,rfl⟩:∃ap cp,vm=.agg #[ι 1,ι dd,ι hh,ς ap ps.length cp]:=hm.fQ;have hms:Sl Ty.pt c (ς ap ps.length cp) ps/\I64 1/\I64 dd/\I64 hh:=Of.iG hm;have lM:=η hms;have Hq:=η hv;have HC:=η hc;have NR:=η hk;have Yo:=η hkm;have HN:=η hn;have CW:=η hme;have J9:=η (fun(W:World) (hW:Grow w W)=>kS (d:=dd) W (hv.mono (hc.trans hW.sub)) (hms.1.mono (hc.trans hW.sub)) hkm);have vZ:=η (fun(W:World) (hW:Grow w W)=>jf (d:=dd) W (hv.mono (hc.trans hW.sub)));have sS:=η (fun(W:World) (hW:Grow w W)=>kQ (n:=dd) W ((Of.iw hv).2.2.mono (hc.trans hW.sub)));have jq:Hid (Grow w (((w.alloc (.cells #[ς al h.log.length cl,ι h.sums.a,ι h.sums.b,ι h.sums.c,ι h.sums.d,ς ar h.ready.length cr,ς ad h.done.length cd] 50)).alloc (.cells #[ι 1,ι dd,ι hh,ς ap ps.length cp] 85)).alloc (.cells #[(),ι 0,ι 0,ι 0,ι 0,(),()] 50))):=η ((((Grow.refl w).alloc _).alloc _).alloc _);have HR3:Hid ((((w.alloc (.cells #[ς al h.log.length cl,ι h.sums.a,ι h.sums.b,ι h.sums.c,ι h.sums.d,ς ar h.ready.length cr,ς ad h.done.length cd] 50)).alloc (.cells #[ι 1,ι dd,ι hh,ς ap ps.length cp] 85)).alloc (.cells #[(),ι 0,ι 0,ι 0,ι 0,(),()] 50)).heap[w.heap.size]? =some (.cells #[ς al h.log.length cl,ι h.sums.a,ι h.sums.b,ι h.sums.c,ι h.sums.d,ς ar h.ready.length cr,ς ad h.done.length cd] 50 (0,0))):=η (aB (aB (aF _ _) _) _);have xX:Hid ((((w.alloc (.cells #[ς al h.log.length cl,ι h.sums.a,ι h.sums.b,ι h.sums.c,ι h.sums.d,ς ar h.ready.length cr,ς ad h.done.length cd] 50)).alloc (.cells #[ι 1,ι dd,ι hh,ς ap ps.length cp] 85)).alloc (.cells #[(),ι 0,ι 0,ι 0,ι 0,(),()] 50)).heap[w.heap.size+1]? =some (.cells #[ι 1,ι dd,ι hh,ς ap ps.length cp] 85 (0,0))):=η (aB (by simpa using aF (w.alloc (.cells #[ς al h.log.length cl,ι h.sums.a,ι h.sums.b,ι h.sums.c,ι h.sums.d,ς ar h.ready.length cr,ς ad h.done.length cd] 50)) _) _);have Gm:Hid ((((w.alloc (.cells #[ς al h.log.length cl,ι h.sums.a,ι h.sums.b,ι h.sums.c,ι h.sums.d,ς ar h.ready.length cr,ς ad h.done.length cd] 50)).alloc (.cells #[ι 1,ι dd,ι hh,ς ap ps.length cp] 85)).alloc (.cells #[(),ι 0,ι 0,ι 0,ι 0,(),()] 50)).heap[w.heap.size+1+1]? =some (.cells #[(),ι 0,ι 0,ι 0,ι 0,(),()] 50 (0,0))):=η (by simpa using aF ((w.alloc (.cells #[ς al h.log.length cl,ι h.sums.a,ι h.sums.b,ι h.sums.c,ι h.sums.d,ς ar h.ready.length cr,ς ad h.done.length cd] 50)).alloc (.cells #[ι 1,ι dd,ι hh,ς ap ps.length cp] 85)) _);clear hv hm hc hk hkm hn hme hms;have qx:Hid (bg h ⟨1,dd,hh,ps⟩=h):=by
  show bg h ⟨1,dd,hh,ps⟩=h;unfold bg;rw [if_pos rfl,if_neg (by show¬(_/\bM h.ready dd=false);rw [rd];simp)]
 have qy:Hid (bG h me ⟨1,dd,hh,ps⟩=kR 2 dd me):=by
  show bG h me ⟨1,dd,hh,ps⟩=kR 2 dd me;unfold bG;rw [if_pos rfl,if_neg (by show¬dU h dd ps=10;omega),if_pos e0]
 have E0:=η e0;have RD:=η rd;clear e0 rd;go_enter Tryz.func53,Tryz.ntmps53;go_wp2_with fail
 refine(J9.o _ jq.o).mono ?_;rw [E0.o];rintro e v1 ⟨rfl,fO⟩;(obtain⟨cL,fv1⟩:=fJ fO;have Nr:w.heap.size<v1:=(ω fO.size);have Ns:w.heap.size+1<v1:=(ω fO.size);have Nu:w.heap.size+1+1<v1:=(ω fO.size);have Az:=η fO;clear fO)
 go_wp2_with fail
 refine(vZ.o _ (jq.o.trans Az.o)).mono ?_;rw [RD.o];rintro e v2 ⟨rfl,bZ⟩;(obtain⟨TZ,fv2⟩:=fJ bZ;have mC:w.heap.size<v2:=(ω bZ.size);have mE:w.heap.size+1<v2:=(ω bZ.size);have mH:w.heap.size+1+1<v2:=(ω bZ.size);have Yp:=η bZ;clear bZ)
 go_wp2_with fail
 have hS:v2.cell? ⟨w.heap.size,0,none⟩=some (ς al h.log.length cl)/\v2.cell? ⟨w.heap.size,1,none⟩=some (ι h.sums.a)/\v2.cell? ⟨w.heap.size,2,none⟩=some (ι h.sums.b)/\v2.cell? ⟨w.heap.size,3,none⟩=some (ι h.sums.c)/\v2.cell? ⟨w.heap.size,4,none⟩=some (ι h.sums.d)/\v2.cell? ⟨w.heap.size,5,none⟩=some (ς ar h.ready.length cr)/\v2.cell? ⟨w.heap.size,6,none⟩=some (ς ad h.done.length cd)/\v2.cell? ⟨w.heap.size+1,1,none⟩=some (ι dd):=by refine⟨?_,?_,?_,?_,?_,?_,?_,?_⟩<;>go_simp
 have vY:Hid (Grow w v2):=η ((jq.o.trans Az.o).trans Yp.o);have R6:Hid (v2.heap[w.heap.size+1+1]? =some (.cells #[(),ι 0,ι 0,ι 0,ι 0,(),()] 50 (0,0))):=η (aj Gm.o (Az.o.trans Yp.o));have hz0:w.heap.size+1+1<v2:=(γ R6.o);obtain⟨s0,s1,s2,s3,s4,s5,s6,s7⟩:=hS;have HS:Hid (∀W,v2.grownBy W (some (w.heap.size+1+1))->W.cell? ⟨w.heap.size,0,none⟩=some (ς al h.log.length cl)/\W.cell? ⟨w.heap.size,1,none⟩=some (ι h.sums.a)/\W.cell? ⟨w.heap.size,2,none⟩=some (ι h.sums.b)/\W.cell? ⟨w.heap.size,3,none⟩=some (ι h.sums.c)/\W.cell? ⟨w.heap.size,4,none⟩=some (ι h.sums.d)/\W.cell? ⟨w.heap.size,5,none⟩=some (ς ar h.ready.length cr)/\W.cell? ⟨w.heap.size,6,none⟩=some (ς ad h.done.length cd)/\W.cell? ⟨w.heap.size+1,1,none⟩=some (ι dd)):=fun W hW=>by
  have k:∀(b o:Nat) (u:Value),b<w.heap.size+1+1->v2.cell? ⟨b,o,none⟩=some u->W.cell? ⟨b,o,none⟩=some u:=fun b o u hb e=>by
   rw [dh hW (World.block_lt_of_cell? v2 _ e) (by simp;omega)];exact e
  exact⟨k _ _ _ δ s0,k _ _ _ δ s1,k _ _ _ δ s2,k _ _ _ δ s3,k _ _ _ δ s4,k _ _ _ δ s5,k _ _ _ δ s6,k _ _ _ δ s7⟩
 clear s0 s1 s2 s3 s4 s5 s6 s7;refine bf (fun w'=>w'.cell? ⟨w.heap.size,0,none⟩=some (ς al h.log.length cl)/\w'.cell? ⟨w.heap.size,1,none⟩=some (ι h.sums.a)/\w'.cell? ⟨w.heap.size,2,none⟩=some (ι h.sums.b)/\w'.cell? ⟨w.heap.size,3,none⟩=some (ι h.sums.c)/\w'.cell? ⟨w.heap.size,4,none⟩=some (ι h.sums.d)/\w'.cell? ⟨w.heap.size,5,none⟩=some (ς ar h.ready.length cr)/\w'.cell? ⟨w.heap.size,6,none⟩=some (ς ad h.done.length cd)/\w'.cell? ⟨w.heap.size+1,1,none⟩=some (ι dd)) 8 κ ?_;obtain⟨wd,hWd⟩:∃x:World,x=v2.drew:=⟨_,rfl⟩;rw [<-hWd];have GD:Grow v2 wd:=by rw [hWd];exact(Grow.refl _).drew
 have zD:v2.heap.size=wd.heap.size:=by rw [hWd];rfl
 have ZD:=η zD;clear hWd zD;have hzd:w.heap.size+1+1<wd:=by have:=ZD.o;omega
 have hzw:w.heap.size<=wd.heap.size:=by have:=hzd;omega
 have FIN:Hid (∀(Wf:World) (q:Nat),w.heap.size<=q->(∀a:Addr,a.block<wd.heap.size->a.block≠w.heap.size+1+1->Wf.cell? a=wd.cell? a)->At Wf.cell? q 0 (#[ι 2,ι dd,ι me,()]:Array Value).toList->Grow w Wf->∃v1 v2,Ending.returned (.tuple #[.agg #[ς al h.log.length cl,ι h.sums.a,ι h.sums.b,ι h.sums.c,ι h.sums.d,ς ar h.ready.length cr,ς ad h.done.length cd],ς (some ⟨q,0,none⟩) 1 1])=.returned (.tuple #[v1,v2])/\Of Ty.hs (ov c w Wf) v1 (bg h ⟨1,dd,hh,ps⟩)/\Sl Ty.ms (ov c w Wf) v2 (bG h me ⟨1,dd,hh,ps⟩)/\Grow w Wf):=by
  intro Wf q hq hA hAt ZK;refine⟨_,_,rfl,?_,?_,ZK⟩
  ·rw [qx.o]
   exact Hq.o.mono (dM HC.o)
  ·rw [qy.o]
   exact zT (T:=Ty.ms) ⟨_,rfl,(show I64 2 from by unfold I64;decide),lM.o.2.2.1,CW.o,Sl.nil _ _⟩ (Gv hAt hq) ε ε
 refine ni [0,1,2,3,4,5] 8 κ (fun _ _ _ _ _ h=>h) (HS.o _ (ak GD _)) ?_;repeat (refine gQ ?_;try simp only [aK])
 refine ny ?_;refine bP 6 7 κ rfl rfl ?_ ?_
 ·intro K HK
  try simp only [aV]
  go_simp;refine HK.o _ _ ⟨fun _=>HS.o _ (grownBy_trans (ak GD _) (ak ((Grow.refl _).alloc _) _)),?_⟩;clear HK K;try simp only [aK]
  refine bO 7 κ rfl ?_;intro K HK;refine aC rfl ?_;try simp only [aV]
  refine wp_store_row (.tmp 6) (.tmp 67) rfl rfl rfl (aj R6.o (GD.alloc _)) dL rfl rfl ?_;intro w7 r7 g7;refine HK.o _ _ ⟨fun _=>HS.o _ (grownBy_trans (grownBy_trans (ak GD _) (ak ((Grow.refl _).alloc _) _)) g7),?_⟩;clear HK K;try simp only [aK]
  refine bO 8 κ rfl ?_;intro K HK;try simp only [aV]
  go_simp;refine HK.o _ _ ⟨fun h=>absurd rfl h,?_⟩;clear HK K;try simp only [aK]
  refine aO κ ?_;obtain⟨p0,p1,p2,p3,p4,p5,p6⟩:=aT r7;go_wp2;refine bodyPost_ret (v:=.tuple #[.agg #[ς al h.log.length cl,ι h.sums.a,ι h.sums.b,ι h.sums.c,ι h.sums.d,ς ar h.ready.length cr,ς ad h.done.length cd],ς (some ⟨wd.heap.size,0,none⟩) 1 1]) (by simp [results,Tryz.results53,go_sem,p0,p1,p2,p3,p4,p5,p6]) rfl ?_;refine FIN.o _ wd.heap.size hzw (fun a h1 h2=>(dh g7 (by simp;omega) h2).trans (((Grow.refl wd).alloc _).cell h1)) (fun j u e=>(dh g7 σ (by simp;omega)).trans (at_new wd _ _ j u e)) ?_;exact(vY.o.trans (GD.alloc _)).grown g7 (fun k hk=>by simp at hk;omega)
 ·intro K HK
  refine aC rfl ?_;try simp only [aV]
  refine wp_store_row (.tmp 6) (.tmp 67) rfl rfl rfl (aj R6.o GD) dL rfl rfl ?_;intro w7 r7 g7;refine HK.o _ _ ⟨fun _=>HS.o _ (grownBy_trans (ak GD _) g7),?_⟩;clear HK K;try simp only [aK]
  refine bO 6 κ rfl ?_;intro K HK;try simp only [aV]
  go_simp;refine HK.o _ _ ⟨fun _=>HS.o _ (grownBy_trans (grownBy_trans (ak GD _) g7) (ak ((Grow.refl _).alloc _) _)),?_⟩;clear HK K;try simp only [aK]
  refine bO 8 κ rfl ?_;intro K HK;try simp only [aV]
  go_simp;refine HK.o _ _ ⟨fun h=>absurd rfl h,?_⟩;clear HK K;try simp only [aK]
  refine aO κ ?_;obtain⟨p0,p1,p2,p3,p4,p5,p6⟩:=aT (aB r7 (.cells #[ι 2,ι dd,ι me,()] 85));go_wp2;refine bodyPost_ret (v:=.tuple #[.agg #[ς al h.log.length cl,ι h.sums.a,ι h.sums.b,ι h.sums.c,ι h.sums.d,ς ar h.ready.length cr,ς ad h.done.length cd],ς (some ⟨w7.heap.size,0,none⟩) 1 1]) (by simp [results,Tryz.results53,go_sem,p0,p1,p2,p3,p4,p5,p6]) rfl ?_;refine FIN.o _ w7.heap.size (Nat.le_trans hzw g7.size) (fun a h1 h2=>(((Grow.refl w7).alloc _).cell (Nat.lt_of_lt_of_le h1 g7.size)).trans (dh g7 h1 h2)) (at_new w7 _ _) ?_;exact((vY.o.trans GD).grown g7 (fun k hk=>by simp at hk;omega)).alloc _
theorem Qb {c:CM} {v vm:Value} {h:Hs} {dd hh me:Int} {ps:List Pt} (w:World) (hc:Sub c w.cell?) (hv:Of Ty.hs c v h) (hm:Of Ty.ms c vm ⟨1,dd,hh,ps⟩) (hk:∀x∈h.log,dw x.parts) (hkm:dw ps) (hn:(h.log.length+1)*40<=140737488355328) (hme:I64 me) (e0:dU h dd ps=0) (rd:bM h.ready dd=false):
  Calls Tryz.prog 53 #[v,ι me,vm] w fun e w'=>∃v1 v2,e=.returned (.tuple #[v1,v2])/\Of Ty.hs (ov c w w') v1 (bg h ⟨1,dd,hh,ps⟩)/\Sl Ty.ms (ov c w w') v2 (bG h me ⟨1,dd,hh,ps⟩)/\Grow w w':=by
 obtain⟨al,cl,ar,cr,ad,cd,rfl⟩:=hv.dF;obtain⟨ap,cp,rfl⟩:∃ap cp,vm=.agg #[ι 1,ι dd,ι hh,ς ap ps.length cp]:=hm.fQ;have hms:Sl Ty.pt c (ς ap ps.length cp) ps/\I64 1/\I64 dd/\I64 hh:=Of.iG hm;have lM:=η hms;have Hq:=η hv;have HC:=η hc;have NR:=η hk;have Yo:=η hkm;have HN:=η hn;have CW:=η hme;have J9:=η (fun(W:World) (hW:Grow w W)=>kS (d:=dd) W (hv.mono (hc.trans hW.sub)) (hms.1.mono (hc.trans hW.sub)) hkm);have vZ:=η (fun(W:World) (hW:Grow w W)=>jf (d:=dd) W (hv.mono (hc.trans hW.sub)));have sS:=η (fun(W:World) (hW:Grow w W)=>kQ (n:=dd) W ((Of.iw hv).2.2.mono (hc.trans hW.sub)));have jq:Hid (Grow w (((w.alloc (.cells #[ς al h.log.length cl,ι h.sums.a,ι h.sums.b,ι h.sums.c,ι h.sums.d,ς ar h.ready.length cr,ς ad h.done.length cd] 50)).alloc (.cells #[ι 1,ι dd,ι hh,ς ap ps.length cp] 85)).alloc (.cells #[(),ι 0,ι 0,ι 0,ι 0,(),()] 50))):=η ((((Grow.refl w).alloc _).alloc _).alloc _);have HR3:Hid ((((w.alloc (.cells #[ς al h.log.length cl,ι h.sums.a,ι h.sums.b,ι h.sums.c,ι h.sums.d,ς ar h.ready.length cr,ς ad h.done.length cd] 50)).alloc (.cells #[ι 1,ι dd,ι hh,ς ap ps.length cp] 85)).alloc (.cells #[(),ι 0,ι 0,ι 0,ι 0,(),()] 50)).heap[w.heap.size]? =some (.cells #[ς al h.log.length cl,ι h.sums.a,ι h.sums.b,ι h.sums.c,ι h.sums.d,ς ar h.ready.length cr,ς ad h.done.length cd] 50 (0,0))):=η (aB (aB (aF _ _) _) _);have xX:Hid ((((w.alloc (.cells #[ς al h.log.length cl,ι h.sums.a,ι h.sums.b,ι h.sums.c,ι h.sums.d,ς ar h.ready.length cr,ς ad h.done.length cd] 50)).alloc (.cells #[ι 1,ι dd,ι hh,ς ap ps.length cp] 85)).alloc (.cells #[(),ι 0,ι 0,ι 0,ι 0,(),()] 50)).heap[w.heap.size+1]? =some (.cells #[ι 1,ι dd,ι hh,ς ap ps.length cp] 85 (0,0))):=η (aB (by simpa using aF (w.alloc (.cells #[ς al h.log.length cl,ι h.sums.a,ι h.sums.b,ι h.sums.c,ι h.sums.d,ς ar h.ready.length cr,ς ad h.done.length cd] 50)) _) _);have Gm:Hid ((((w.alloc (.cells #[ς al h.log.length cl,ι h.sums.a,ι h.sums.b,ι h.sums.c,ι h.sums.d,ς ar h.ready.length cr,ς ad h.done.length cd] 50)).alloc (.cells #[ι 1,ι dd,ι hh,ς ap ps.length cp] 85)).alloc (.cells #[(),ι 0,ι 0,ι 0,ι 0,(),()] 50)).heap[w.heap.size+1+1]? =some (.cells #[(),ι 0,ι 0,ι 0,ι 0,(),()] 50 (0,0))):=η (by simpa using aF ((w.alloc (.cells #[ς al h.log.length cl,ι h.sums.a,ι h.sums.b,ι h.sums.c,ι h.sums.d,ς ar h.ready.length cr,ς ad h.done.length cd] 50)).alloc (.cells #[ι 1,ι dd,ι hh,ς ap ps.length cp] 85)) _);clear hv hm hc hk hkm hn hme hms;have qx:Hid (bg h ⟨1,dd,hh,ps⟩=dV h ⟨1,dd,ps⟩):=by
  show bg h ⟨1,dd,hh,ps⟩=dV h ⟨1,dd,ps⟩;unfold bg;rw [if_pos rfl,if_pos ⟨e0,rd⟩]
 have qy:Hid (bG h me ⟨1,dd,hh,ps⟩=kR 2 dd me):=by
  show bG h me ⟨1,dd,hh,ps⟩=kR 2 dd me;unfold bG;rw [if_pos rfl,if_neg (by show¬dU h dd ps=10;omega),if_pos e0]
 have E0:=η e0;have RD:=η rd;clear e0 rd;go_enter Tryz.func53,Tryz.ntmps53;go_wp2_with fail
 refine(J9.o _ jq.o).mono ?_;rw [E0.o];rintro e v1 ⟨rfl,fO⟩;(obtain⟨cL,fv1⟩:=fJ fO;have Nr:w.heap.size<v1:=(ω fO.size);have Ns:w.heap.size+1<v1:=(ω fO.size);have Nu:w.heap.size+1+1<v1:=(ω fO.size);have Az:=η fO;clear fO)
 go_wp2_with fail
 refine(vZ.o _ (jq.o.trans Az.o)).mono ?_;rw [RD.o];rintro e v2 ⟨rfl,bZ⟩;(obtain⟨TZ,fv2⟩:=fJ bZ;have mC:w.heap.size<v2:=(ω bZ.size);have mE:w.heap.size+1<v2:=(ω bZ.size);have mH:w.heap.size+1+1<v2:=(ω bZ.size);have Yp:=η bZ;clear bZ)
 go_wp2_with fail
 have GW:Hid (Grow _ v2):=η (Az.o.trans Yp.o);have GV:Hid (Grow w v2):=η (jq.o.trans GW.o);have ZV:Hid (w.heap.size+1+1<v2):=η (Array.getElem?_eq_some_iff.1 (aj Gm.o GW.o)).1;have hrr:Ty.rc.R (wk w.heap.size 3 (ov c w v2)) [ι (⟨1,dd,ps⟩:Rc).kind,ι dd,ς ap ps.length cp] ⟨1,dd,ps⟩:=Ty.rc.mono (Dx HC.o 3) (show Ty.rc.R c [ι 1,ι dd,ς ap ps.length cp] ⟨1,dd,ps⟩ from⟨_,rfl,lM.o.2.1,lM.o.2.2.1,lM.o.1⟩);refine(Dw (c:=wk w.heap.size 3 (ov c w v2)) (r:=⟨1,dd,ps⟩) v2 (QE HC.o GV.o 3) (Hq.o.mono (Dx HC.o 3)) ⟨_,rfl,hrr⟩ NR.o Yo.o HN.o).mono ?_;clear hrr;generalize dV h ⟨1,dd,ps⟩=x at*;rintro e v3 ⟨vx,rfl,hX,fH⟩;obtain⟨eU,eX,kG,kH,o_,pq,rfl⟩:=hX.dF;have HX:=η hX;have oq:=η fH;clear hX;have Ah:Hid (Grow _ v3):=η (GW.o.trans fH);obtain⟨k0,k1,k2,k3,k4,k5,k6⟩:=aT (aj HR3.o Ah.o);have kf:=dA (aj HR3.o Ah.o);obtain⟨m0,m1,m2,m3⟩:=cells4 (aj xX.o Ah.o);clear fH;go_wp2_with (first|(refine wpList_store_row rfl (.tmp 3) (.tmp 37) rfl rfl rfl (aj HR3.o Ah.o) dL rfl rfl ?_))
 intro v4 r4 g4;have R3:=η r4;have JI:=η g4;clear r4 g4;have R5:Hid (v4.heap[w.heap.size+1]? =_):=η (aH (aj xX.o Ah.o) JI.o σ);have R6:Hid (v4.heap[w.heap.size+1+1]? =_):=η (aH (aj Gm.o Ah.o) JI.o (by simp;omega));clear k0 k1 k2 k3 k4 k5 k6 kf m0 m1 m2 m3;have xJ:Hid (Grow w v4):=η ((GV.o.trans oq.o).grown JI.o (fun k hk=>by simp at hk;omega));obtain⟨k0,k1,k2,k3,k4,k5,k6⟩:=aT R3.o;obtain⟨m0,m1,m2,m3⟩:=cells4 R5.o;go_wp2_with fail
 have hS:v4.cell? ⟨w.heap.size,0,none⟩=some (ς eU x.log.length eX)/\v4.cell? ⟨w.heap.size,1,none⟩=some (ι x.sums.a)/\v4.cell? ⟨w.heap.size,2,none⟩=some (ι x.sums.b)/\v4.cell? ⟨w.heap.size,3,none⟩=some (ι x.sums.c)/\v4.cell? ⟨w.heap.size,4,none⟩=some (ι x.sums.d)/\v4.cell? ⟨w.heap.size,5,none⟩=some (ς kG x.ready.length kH)/\v4.cell? ⟨w.heap.size,6,none⟩=some (ς o_ x.done.length pq)/\v4.cell? ⟨w.heap.size+1,1,none⟩=some (ι dd):=by refine⟨?_,?_,?_,?_,?_,?_,?_,?_⟩<;>go_simp
 have vY:Hid (Grow w v4):=η xJ.o;have R6:Hid (v4.heap[w.heap.size+1+1]? =some (.cells #[(),ι 0,ι 0,ι 0,ι 0,(),()] 50 (0,0))):=η R6.o;have hz0:w.heap.size+1+1<v4:=(γ R6.o);obtain⟨s0,s1,s2,s3,s4,s5,s6,s7⟩:=hS;have HS:Hid (∀W,v4.grownBy W (some (w.heap.size+1+1))->W.cell? ⟨w.heap.size,0,none⟩=some (ς eU x.log.length eX)/\W.cell? ⟨w.heap.size,1,none⟩=some (ι x.sums.a)/\W.cell? ⟨w.heap.size,2,none⟩=some (ι x.sums.b)/\W.cell? ⟨w.heap.size,3,none⟩=some (ι x.sums.c)/\W.cell? ⟨w.heap.size,4,none⟩=some (ι x.sums.d)/\W.cell? ⟨w.heap.size,5,none⟩=some (ς kG x.ready.length kH)/\W.cell? ⟨w.heap.size,6,none⟩=some (ς o_ x.done.length pq)/\W.cell? ⟨w.heap.size+1,1,none⟩=some (ι dd)):=fun W hW=>by
  have k:∀(b o:Nat) (u:Value),b<w.heap.size+1+1->v4.cell? ⟨b,o,none⟩=some u->W.cell? ⟨b,o,none⟩=some u:=fun b o u hb e=>by
   rw [dh hW (World.block_lt_of_cell? v4 _ e) (by simp;omega)];exact e
  exact⟨k _ _ _ δ s0,k _ _ _ δ s1,k _ _ _ δ s2,k _ _ _ δ s3,k _ _ _ δ s4,k _ _ _ δ s5,k _ _ _ δ s6,k _ _ _ δ s7⟩
 clear s0 s1 s2 s3 s4 s5 s6 s7;refine bf (fun w'=>w'.cell? ⟨w.heap.size,0,none⟩=some (ς eU x.log.length eX)/\w'.cell? ⟨w.heap.size,1,none⟩=some (ι x.sums.a)/\w'.cell? ⟨w.heap.size,2,none⟩=some (ι x.sums.b)/\w'.cell? ⟨w.heap.size,3,none⟩=some (ι x.sums.c)/\w'.cell? ⟨w.heap.size,4,none⟩=some (ι x.sums.d)/\w'.cell? ⟨w.heap.size,5,none⟩=some (ς kG x.ready.length kH)/\w'.cell? ⟨w.heap.size,6,none⟩=some (ς o_ x.done.length pq)/\w'.cell? ⟨w.heap.size+1,1,none⟩=some (ι dd)) 8 κ ?_;obtain⟨wd,hWd⟩:∃x:World,x=v4.drew:=⟨_,rfl⟩;rw [<-hWd];have GD:Grow v4 wd:=by rw [hWd];exact(Grow.refl _).drew
 have zD:v4.heap.size=wd.heap.size:=by rw [hWd];rfl
 have ZD:=η zD;clear hWd zD;have hzd:w.heap.size+1+1<wd:=by have:=ZD.o;omega
 have hzw:w.heap.size<=wd.heap.size:=by have:=hzd;omega
 have FIN:Hid (∀(Wf:World) (q:Nat),w.heap.size<=q->(∀a:Addr,a.block<wd.heap.size->a.block≠w.heap.size+1+1->Wf.cell? a=wd.cell? a)->At Wf.cell? q 0 (#[ι 2,ι dd,ι me,()]:Array Value).toList->Grow w Wf->∃v1 v2,Ending.returned (.tuple #[.agg #[ς eU x.log.length eX,ι x.sums.a,ι x.sums.b,ι x.sums.c,ι x.sums.d,ς kG x.ready.length kH,ς o_ x.done.length pq],ς (some ⟨q,0,none⟩) 1 1])=.returned (.tuple #[v1,v2])/\Of Ty.hs (ov c w Wf) v1 (bg h ⟨1,dd,hh,ps⟩)/\Sl Ty.ms (ov c w Wf) v2 (bG h me ⟨1,dd,hh,ps⟩)/\Grow w Wf):=by
  intro Wf q hq hA hAt ZK;refine⟨_,_,rfl,?_,?_,ZK⟩
  ·rw [qx.o]
   exact HX.o.mono (yx (k:=3) GV.o oq.o (τ ZV.o) fun a u ha e=>by
    rw [hA a (by have h1:=World.block_lt_of_cell? v3 a e;have h2:=JI.o.size;have h3:=ZD.o;omega) δ,(World.cell?_of_block (show wd.heap[a.block]? =v4.heap[a.block]? from(GD.block _ (by have h1:=World.block_lt_of_cell? v3 a e;have h2:=JI.o.size;omega)))),dh JI.o (World.block_lt_of_cell? v3 a e) δ];exact e)
  ·rw [qy.o]
   exact zT (T:=Ty.ms) ⟨_,rfl,(show I64 2 from by unfold I64;decide),lM.o.2.2.1,CW.o,Sl.nil _ _⟩ (Gv hAt hq) ε ε
 refine ni [0,1,2,3,4,5] 8 κ (fun _ _ _ _ _ h=>h) (HS.o _ (ak GD _)) ?_;repeat (refine gQ ?_;try simp only [aK])
 refine ny ?_;refine bP 6 7 κ rfl rfl ?_ ?_
 ·intro K HK
  try simp only [aV]
  go_simp;refine HK.o _ _ ⟨fun _=>HS.o _ (grownBy_trans (ak GD _) (ak ((Grow.refl _).alloc _) _)),?_⟩;clear HK K;try simp only [aK]
  refine bO 7 κ rfl ?_;intro K HK;refine aC rfl ?_;try simp only [aV]
  refine wp_store_row (.tmp 6) (.tmp 67) rfl rfl rfl (aj R6.o (GD.alloc _)) dL rfl rfl ?_;intro w7 r7 g7;refine HK.o _ _ ⟨fun _=>HS.o _ (grownBy_trans (grownBy_trans (ak GD _) (ak ((Grow.refl _).alloc _) _)) g7),?_⟩;clear HK K;try simp only [aK]
  refine bO 8 κ rfl ?_;intro K HK;try simp only [aV]
  go_simp;refine HK.o _ _ ⟨fun h=>absurd rfl h,?_⟩;clear HK K;try simp only [aK]
  refine aO κ ?_;obtain⟨p0,p1,p2,p3,p4,p5,p6⟩:=aT r7;go_wp2;refine bodyPost_ret (v:=.tuple #[.agg #[ς eU x.log.length eX,ι x.sums.a,ι x.sums.b,ι x.sums.c,ι x.sums.d,ς kG x.ready.length kH,ς o_ x.done.length pq],ς (some ⟨wd.heap.size,0,none⟩) 1 1]) (by simp [results,Tryz.results53,go_sem,p0,p1,p2,p3,p4,p5,p6]) rfl ?_;refine FIN.o _ wd.heap.size hzw (fun a h1 h2=>(dh g7 (by simp;omega) h2).trans (((Grow.refl wd).alloc _).cell h1)) (fun j u e=>(dh g7 σ (by simp;omega)).trans (at_new wd _ _ j u e)) ?_;exact(vY.o.trans (GD.alloc _)).grown g7 (fun k hk=>by simp at hk;omega)
 ·intro K HK
  refine aC rfl ?_;try simp only [aV]
  refine wp_store_row (.tmp 6) (.tmp 67) rfl rfl rfl (aj R6.o GD) dL rfl rfl ?_;intro w7 r7 g7;refine HK.o _ _ ⟨fun _=>HS.o _ (grownBy_trans (ak GD _) g7),?_⟩;clear HK K;try simp only [aK]
  refine bO 6 κ rfl ?_;intro K HK;try simp only [aV]
  go_simp;refine HK.o _ _ ⟨fun _=>HS.o _ (grownBy_trans (grownBy_trans (ak GD _) g7) (ak ((Grow.refl _).alloc _) _)),?_⟩;clear HK K;try simp only [aK]
  refine bO 8 κ rfl ?_;intro K HK;try simp only [aV]
  go_simp;refine HK.o _ _ ⟨fun h=>absurd rfl h,?_⟩;clear HK K;try simp only [aK]
  refine aO κ ?_;obtain⟨p0,p1,p2,p3,p4,p5,p6⟩:=aT (aB r7 (.cells #[ι 2,ι dd,ι me,()] 85));go_wp2;refine bodyPost_ret (v:=.tuple #[.agg #[ς eU x.log.length eX,ι x.sums.a,ι x.sums.b,ι x.sums.c,ι x.sums.d,ς kG x.ready.length kH,ς o_ x.done.length pq],ς (some ⟨w7.heap.size,0,none⟩) 1 1]) (by simp [results,Tryz.results53,go_sem,p0,p1,p2,p3,p4,p5,p6]) rfl ?_;refine FIN.o _ w7.heap.size (Nat.le_trans hzw g7.size) (fun a h1 h2=>(((Grow.refl w7).alloc _).cell (Nat.lt_of_lt_of_le h1 g7.size)).trans (dh g7 h1 h2)) (at_new w7 _ _) ?_;exact((vY.o.trans GD).grown g7 (fun k hk=>by simp at hk;omega)).alloc _
theorem Qc {c:CM} {v vm:Value} {h:Hs} {dd hh me:Int} {ps:List Pt} (w:World) (hc:Sub c w.cell?) (hv:Of Ty.hs c v h) (hm:Of Ty.ms c vm ⟨1,dd,hh,ps⟩) (hk:∀x∈h.log,dw x.parts) (hkm:dw ps) (hn:(h.log.length+1)*40<=140737488355328) (hme:I64 me) (e10:¬dU h dd ps=10) (e0:¬dU h dd ps=0):
  Calls Tryz.prog 53 #[v,ι me,vm] w fun e w'=>∃v1 v2,e=.returned (.tuple #[v1,v2])/\Of Ty.hs (ov c w w') v1 (bg h ⟨1,dd,hh,ps⟩)/\Sl Ty.ms (ov c w w') v2 (bG h me ⟨1,dd,hh,ps⟩)/\Grow w w':=by
 obtain⟨al,cl,ar,cr,ad,cd,rfl⟩:=hv.dF;obtain⟨ap,cp,rfl⟩:∃ap cp,vm=.agg #[ι 1,ι dd,ι hh,ς ap ps.length cp]:=hm.fQ;have hms:Sl Ty.pt c (ς ap ps.length cp) ps/\I64 1/\I64 dd/\I64 hh:=Of.iG hm;have lM:=η hms;have Hq:=η hv;have HC:=η hc;have NR:=η hk;have Yo:=η hkm;have HN:=η hn;have CW:=η hme;have J9:=η (fun(W:World) (hW:Grow w W)=>kS (d:=dd) W (hv.mono (hc.trans hW.sub)) (hms.1.mono (hc.trans hW.sub)) hkm);have vZ:=η (fun(W:World) (hW:Grow w W)=>jf (d:=dd) W (hv.mono (hc.trans hW.sub)));have sS:=η (fun(W:World) (hW:Grow w W)=>kQ (n:=dd) W ((Of.iw hv).2.2.mono (hc.trans hW.sub)));have jq:Hid (Grow w (((w.alloc (.cells #[ς al h.log.length cl,ι h.sums.a,ι h.sums.b,ι h.sums.c,ι h.sums.d,ς ar h.ready.length cr,ς ad h.done.length cd] 50)).alloc (.cells #[ι 1,ι dd,ι hh,ς ap ps.length cp] 85)).alloc (.cells #[(),ι 0,ι 0,ι 0,ι 0,(),()] 50))):=η ((((Grow.refl w).alloc _).alloc _).alloc _);have HR3:Hid ((((w.alloc (.cells #[ς al h.log.length cl,ι h.sums.a,ι h.sums.b,ι h.sums.c,ι h.sums.d,ς ar h.ready.length cr,ς ad h.done.length cd] 50)).alloc (.cells #[ι 1,ι dd,ι hh,ς ap ps.length cp] 85)).alloc (.cells #[(),ι 0,ι 0,ι 0,ι 0,(),()] 50)).heap[w.heap.size]? =some (.cells #[ς al h.log.length cl,ι h.sums.a,ι h.sums.b,ι h.sums.c,ι h.sums.d,ς ar h.ready.length cr,ς ad h.done.length cd] 50 (0,0))):=η (aB (aB (aF _ _) _) _);have xX:Hid ((((w.alloc (.cells #[ς al h.log.length cl,ι h.sums.a,ι h.sums.b,ι h.sums.c,ι h.sums.d,ς ar h.ready.length cr,ς ad h.done.length cd] 50)).alloc (.cells #[ι 1,ι dd,ι hh,ς ap ps.length cp] 85)).alloc (.cells #[(),ι 0,ι 0,ι 0,ι 0,(),()] 50)).heap[w.heap.size+1]? =some (.cells #[ι 1,ι dd,ι hh,ς ap ps.length cp] 85 (0,0))):=η (aB (by simpa using aF (w.alloc (.cells #[ς al h.log.length cl,ι h.sums.a,ι h.sums.b,ι h.sums.c,ι h.sums.d,ς ar h.ready.length cr,ς ad h.done.length cd] 50)) _) _);have Gm:Hid ((((w.alloc (.cells #[ς al h.log.length cl,ι h.sums.a,ι h.sums.b,ι h.sums.c,ι h.sums.d,ς ar h.ready.length cr,ς ad h.done.length cd] 50)).alloc (.cells #[ι 1,ι dd,ι hh,ς ap ps.length cp] 85)).alloc (.cells #[(),ι 0,ι 0,ι 0,ι 0,(),()] 50)).heap[w.heap.size+1+1]? =some (.cells #[(),ι 0,ι 0,ι 0,ι 0,(),()] 50 (0,0))):=η (by simpa using aF ((w.alloc (.cells #[ς al h.log.length cl,ι h.sums.a,ι h.sums.b,ι h.sums.c,ι h.sums.d,ς ar h.ready.length cr,ς ad h.done.length cd] 50)).alloc (.cells #[ι 1,ι dd,ι hh,ς ap ps.length cp] 85)) _);clear hv hm hc hk hkm hn hme hms;have qx:Hid (bg h ⟨1,dd,hh,ps⟩=h):=by
  show bg h ⟨1,dd,hh,ps⟩=h;unfold bg;rw [if_pos rfl,if_neg (fun h2=>e0 h2.1)]
 have qy:Hid (bG h me ⟨1,dd,hh,ps⟩=kR 3 dd me):=by
  show bG h me ⟨1,dd,hh,ps⟩=kR 3 dd me;unfold bG;rw [if_pos rfl,if_neg e10,if_neg e0]
 have iL:(dU h dd ps==10)=false:=by simpa using e10
 have hb0:(dU h dd ps==0)=false:=by simpa using e0
 clear e0 e10;generalize dU h dd ps=ve at*;go_enter Tryz.func53,Tryz.ntmps53;go_wp2_with fail
 refine(J9.o _ jq.o).mono ?_;rintro e v1 ⟨rfl,fO⟩;(obtain⟨cL,fv1⟩:=fJ fO;have Nr:w.heap.size<v1:=(ω fO.size);have Ns:w.heap.size+1<v1:=(ω fO.size);have Nu:w.heap.size+1+1<v1:=(ω fO.size);have Az:=η fO;clear fO)
 go_wp2_with fail
 have hS:v1.cell? ⟨w.heap.size,0,none⟩=some (ς al h.log.length cl)/\v1.cell? ⟨w.heap.size,1,none⟩=some (ι h.sums.a)/\v1.cell? ⟨w.heap.size,2,none⟩=some (ι h.sums.b)/\v1.cell? ⟨w.heap.size,3,none⟩=some (ι h.sums.c)/\v1.cell? ⟨w.heap.size,4,none⟩=some (ι h.sums.d)/\v1.cell? ⟨w.heap.size,5,none⟩=some (ς ar h.ready.length cr)/\v1.cell? ⟨w.heap.size,6,none⟩=some (ς ad h.done.length cd)/\v1.cell? ⟨w.heap.size+1,1,none⟩=some (ι dd):=by refine⟨?_,?_,?_,?_,?_,?_,?_,?_⟩<;>go_simp
 have vY:Hid (Grow w v1):=η (jq.o.trans Az.o);have R6:Hid (v1.heap[w.heap.size+1+1]? =some (.cells #[(),ι 0,ι 0,ι 0,ι 0,(),()] 50 (0,0))):=η (aj Gm.o Az.o);have hz0:w.heap.size+1+1<v1:=(γ R6.o);obtain⟨s0,s1,s2,s3,s4,s5,s6,s7⟩:=hS;have HS:Hid (∀W,v1.grownBy W (some (w.heap.size+1+1))->W.cell? ⟨w.heap.size,0,none⟩=some (ς al h.log.length cl)/\W.cell? ⟨w.heap.size,1,none⟩=some (ι h.sums.a)/\W.cell? ⟨w.heap.size,2,none⟩=some (ι h.sums.b)/\W.cell? ⟨w.heap.size,3,none⟩=some (ι h.sums.c)/\W.cell? ⟨w.heap.size,4,none⟩=some (ι h.sums.d)/\W.cell? ⟨w.heap.size,5,none⟩=some (ς ar h.ready.length cr)/\W.cell? ⟨w.heap.size,6,none⟩=some (ς ad h.done.length cd)/\W.cell? ⟨w.heap.size+1,1,none⟩=some (ι dd)):=fun W hW=>by
  have k:∀(b o:Nat) (u:Value),b<w.heap.size+1+1->v1.cell? ⟨b,o,none⟩=some u->W.cell? ⟨b,o,none⟩=some u:=fun b o u hb e=>by
   rw [dh hW (World.block_lt_of_cell? v1 _ e) (by simp;omega)];exact e
  exact⟨k _ _ _ δ s0,k _ _ _ δ s1,k _ _ _ δ s2,k _ _ _ δ s3,k _ _ _ δ s4,k _ _ _ δ s5,k _ _ _ δ s6,k _ _ _ δ s7⟩
 clear s0 s1 s2 s3 s4 s5 s6 s7;refine bf (fun w'=>w'.cell? ⟨w.heap.size,0,none⟩=some (ς al h.log.length cl)/\w'.cell? ⟨w.heap.size,1,none⟩=some (ι h.sums.a)/\w'.cell? ⟨w.heap.size,2,none⟩=some (ι h.sums.b)/\w'.cell? ⟨w.heap.size,3,none⟩=some (ι h.sums.c)/\w'.cell? ⟨w.heap.size,4,none⟩=some (ι h.sums.d)/\w'.cell? ⟨w.heap.size,5,none⟩=some (ς ar h.ready.length cr)/\w'.cell? ⟨w.heap.size,6,none⟩=some (ς ad h.done.length cd)/\w'.cell? ⟨w.heap.size+1,1,none⟩=some (ι dd)) 8 κ ?_;obtain⟨wd,hWd⟩:∃x:World,x=v1.drew:=⟨_,rfl⟩;rw [<-hWd];have GD:Grow v1 wd:=by rw [hWd];exact(Grow.refl _).drew
 have zD:v1.heap.size=wd.heap.size:=by rw [hWd];rfl
 have ZD:=η zD;clear hWd zD;have hzd:w.heap.size+1+1<wd:=by have:=ZD.o;omega
 have hzw:w.heap.size<=wd.heap.size:=by have:=hzd;omega
 have FIN:Hid (∀(Wf:World) (q:Nat),w.heap.size<=q->(∀a:Addr,a.block<wd.heap.size->a.block≠w.heap.size+1+1->Wf.cell? a=wd.cell? a)->At Wf.cell? q 0 (#[ι 3,ι dd,ι me,()]:Array Value).toList->Grow w Wf->∃v1 v2,Ending.returned (.tuple #[.agg #[ς al h.log.length cl,ι h.sums.a,ι h.sums.b,ι h.sums.c,ι h.sums.d,ς ar h.ready.length cr,ς ad h.done.length cd],ς (some ⟨q,0,none⟩) 1 1])=.returned (.tuple #[v1,v2])/\Of Ty.hs (ov c w Wf) v1 (bg h ⟨1,dd,hh,ps⟩)/\Sl Ty.ms (ov c w Wf) v2 (bG h me ⟨1,dd,hh,ps⟩)/\Grow w Wf):=by
  intro Wf q hq hA hAt ZK;refine⟨_,_,rfl,?_,?_,ZK⟩
  ·rw [qx.o]
   exact Hq.o.mono (dM HC.o)
  ·rw [qy.o]
   exact zT (T:=Ty.ms) ⟨_,rfl,(show I64 3 from by unfold I64;decide),lM.o.2.2.1,CW.o,Sl.nil _ _⟩ (Gv hAt hq) ε ε
 refine ni [0,1,2,3,4,5] 8 κ (fun _ _ _ _ _ h=>h) (HS.o _ (ak GD _)) ?_;repeat (refine gQ ?_;try simp only [aK])
 refine ny ?_;refine bP 6 7 κ rfl rfl ?_ ?_
 ·intro K HK
  try simp only [aV]
  go_simp;refine HK.o _ _ ⟨fun _=>HS.o _ (grownBy_trans (ak GD _) (ak ((Grow.refl _).alloc _) _)),?_⟩;clear HK K;try simp only [aK]
  refine bO 7 κ rfl ?_;intro K HK;refine aC rfl ?_;try simp only [aV]
  refine wp_store_row (.tmp 6) (.tmp 67) rfl rfl rfl (aj R6.o (GD.alloc _)) dL rfl rfl ?_;intro w7 r7 g7;refine HK.o _ _ ⟨fun _=>HS.o _ (grownBy_trans (grownBy_trans (ak GD _) (ak ((Grow.refl _).alloc _) _)) g7),?_⟩;clear HK K;try simp only [aK]
  refine bO 8 κ rfl ?_;intro K HK;try simp only [aV]
  go_simp;refine HK.o _ _ ⟨fun h=>absurd rfl h,?_⟩;clear HK K;try simp only [aK]
  refine aO κ ?_;obtain⟨p0,p1,p2,p3,p4,p5,p6⟩:=aT r7;go_wp2;refine bodyPost_ret (v:=.tuple #[.agg #[ς al h.log.length cl,ι h.sums.a,ι h.sums.b,ι h.sums.c,ι h.sums.d,ς ar h.ready.length cr,ς ad h.done.length cd],ς (some ⟨wd.heap.size,0,none⟩) 1 1]) (by simp [results,Tryz.results53,go_sem,p0,p1,p2,p3,p4,p5,p6]) rfl ?_;refine FIN.o _ wd.heap.size hzw (fun a h1 h2=>(dh g7 (by simp;omega) h2).trans (((Grow.refl wd).alloc _).cell h1)) (fun j u e=>(dh g7 σ (by simp;omega)).trans (at_new wd _ _ j u e)) ?_;exact(vY.o.trans (GD.alloc _)).grown g7 (fun k hk=>by simp at hk;omega)
 ·intro K HK
  refine aC rfl ?_;try simp only [aV]
  refine wp_store_row (.tmp 6) (.tmp 67) rfl rfl rfl (aj R6.o GD) dL rfl rfl ?_;intro w7 r7 g7;refine HK.o _ _ ⟨fun _=>HS.o _ (grownBy_trans (ak GD _) g7),?_⟩;clear HK K;try simp only [aK]
  refine bO 6 κ rfl ?_;intro K HK;try simp only [aV]
  go_simp;refine HK.o _ _ ⟨fun _=>HS.o _ (grownBy_trans (grownBy_trans (ak GD _) g7) (ak ((Grow.refl _).alloc _) _)),?_⟩;clear HK K;try simp only [aK]
  refine bO 8 κ rfl ?_;intro K HK;try simp only [aV]
  go_simp;refine HK.o _ _ ⟨fun h=>absurd rfl h,?_⟩;clear HK K;try simp only [aK]
  refine aO κ ?_;obtain⟨p0,p1,p2,p3,p4,p5,p6⟩:=aT (aB r7 (.cells #[ι 3,ι dd,ι me,()] 85));go_wp2;refine bodyPost_ret (v:=.tuple #[.agg #[ς al h.log.length cl,ι h.sums.a,ι h.sums.b,ι h.sums.c,ι h.sums.d,ς ar h.ready.length cr,ς ad h.done.length cd],ς (some ⟨w7.heap.size,0,none⟩) 1 1]) (by simp [results,Tryz.results53,go_sem,p0,p1,p2,p3,p4,p5,p6]) rfl ?_;refine FIN.o _ w7.heap.size (Nat.le_trans hzw g7.size) (fun a h1 h2=>(((Grow.refl w7).alloc _).cell (Nat.lt_of_lt_of_le h1 g7.size)).trans (dh g7 h1 h2)) (at_new w7 _ _) ?_;exact((vY.o.trans GD).grown g7 (fun k hk=>by simp at hk;omega)).alloc _
theorem Qd {c:CM} {v vm:Value} {h:Hs} {dd hh me:Int} {ps:List Pt} (w:World) (hc:Sub c w.cell?) (hv:Of Ty.hs c v h) (hm:Of Ty.ms c vm ⟨4,dd,hh,ps⟩) (hk:∀x∈h.log,dw x.parts) (hkm:dw ps) (hn:(h.log.length+1)*40<=140737488355328) (hme:I64 me) (rd:bM h.ready dd=true) (hin:dd∈(dV h ⟨2,dd,[]⟩).done):
  Calls Tryz.prog 53 #[v,ι me,vm] w fun e w'=>∃v1 v2,e=.returned (.tuple #[v1,v2])/\Of Ty.hs (ov c w w') v1 (bg h ⟨4,dd,hh,ps⟩)/\Sl Ty.ms (ov c w w') v2 (bG h me ⟨4,dd,hh,ps⟩)/\Grow w w':=by
 obtain⟨al,cl,ar,cr,ad,cd,rfl⟩:=hv.dF;obtain⟨ap,cp,rfl⟩:∃ap cp,vm=.agg #[ι 4,ι dd,ι hh,ς ap ps.length cp]:=hm.fQ;have hms:Sl Ty.pt c (ς ap ps.length cp) ps/\I64 4/\I64 dd/\I64 hh:=Of.iG hm;have lM:=η hms;have Hq:=η hv;have HC:=η hc;have NR:=η hk;have Yo:=η hkm;have HN:=η hn;have CW:=η hme;have J9:=η (fun(W:World) (hW:Grow w W)=>kS (d:=dd) W (hv.mono (hc.trans hW.sub)) (hms.1.mono (hc.trans hW.sub)) hkm);have vZ:=η (fun(W:World) (hW:Grow w W)=>jf (d:=dd) W (hv.mono (hc.trans hW.sub)));have sS:=η (fun(W:World) (hW:Grow w W)=>kQ (n:=dd) W ((Of.iw hv).2.2.mono (hc.trans hW.sub)));have jq:Hid (Grow w (((w.alloc (.cells #[ς al h.log.length cl,ι h.sums.a,ι h.sums.b,ι h.sums.c,ι h.sums.d,ς ar h.ready.length cr,ς ad h.done.length cd] 50)).alloc (.cells #[ι 4,ι dd,ι hh,ς ap ps.length cp] 85)).alloc (.cells #[(),ι 0,ι 0,ι 0,ι 0,(),()] 50))):=η ((((Grow.refl w).alloc _).alloc _).alloc _);have HR3:Hid ((((w.alloc (.cells #[ς al h.log.length cl,ι h.sums.a,ι h.sums.b,ι h.sums.c,ι h.sums.d,ς ar h.ready.length cr,ς ad h.done.length cd] 50)).alloc (.cells #[ι 4,ι dd,ι hh,ς ap ps.length cp] 85)).alloc (.cells #[(),ι 0,ι 0,ι 0,ι 0,(),()] 50)).heap[w.heap.size]? =some (.cells #[ς al h.log.length cl,ι h.sums.a,ι h.sums.b,ι h.sums.c,ι h.sums.d,ς ar h.ready.length cr,ς ad h.done.length cd] 50 (0,0))):=η (aB (aB (aF _ _) _) _);have xX:Hid ((((w.alloc (.cells #[ς al h.log.length cl,ι h.sums.a,ι h.sums.b,ι h.sums.c,ι h.sums.d,ς ar h.ready.length cr,ς ad h.done.length cd] 50)).alloc (.cells #[ι 4,ι dd,ι hh,ς ap ps.length cp] 85)).alloc (.cells #[(),ι 0,ι 0,ι 0,ι 0,(),()] 50)).heap[w.heap.size+1]? =some (.cells #[ι 4,ι dd,ι hh,ς ap ps.length cp] 85 (0,0))):=η (aB (by simpa using aF (w.alloc (.cells #[ς al h.log.length cl,ι h.sums.a,ι h.sums.b,ι h.sums.c,ι h.sums.d,ς ar h.ready.length cr,ς ad h.done.length cd] 50)) _) _);have Gm:Hid ((((w.alloc (.cells #[ς al h.log.length cl,ι h.sums.a,ι h.sums.b,ι h.sums.c,ι h.sums.d,ς ar h.ready.length cr,ς ad h.done.length cd] 50)).alloc (.cells #[ι 4,ι dd,ι hh,ς ap ps.length cp] 85)).alloc (.cells #[(),ι 0,ι 0,ι 0,ι 0,(),()] 50)).heap[w.heap.size+1+1]? =some (.cells #[(),ι 0,ι 0,ι 0,ι 0,(),()] 50 (0,0))):=η (by simpa using aF ((w.alloc (.cells #[ς al h.log.length cl,ι h.sums.a,ι h.sums.b,ι h.sums.c,ι h.sums.d,ς ar h.ready.length cr,ς ad h.done.length cd] 50)).alloc (.cells #[ι 4,ι dd,ι hh,ς ap ps.length cp] 85)) _);clear hv hm hc hk hkm hn hme hms;have qx:Hid (bg h ⟨4,dd,hh,ps⟩=dV h ⟨2,dd,[]⟩):=by
  show bg h ⟨4,dd,hh,ps⟩=dV h ⟨2,dd,[]⟩;unfold bg;rw [if_neg (fun e=>by cases e),if_pos rfl,if_pos rd]
 have qy:Hid (bG h me ⟨4,dd,hh,ps⟩=kR 6 dd me):=by
  show bG h me ⟨4,dd,hh,ps⟩=kR 6 dd me;unfold bG;rw [if_neg (fun e=>by cases e),if_pos rfl,qx.o,if_pos hin]
 have Eu:=η hin;clear hin;have RD:=η rd;clear rd;go_enter Tryz.func53,Tryz.ntmps53;go_wp2_with fail
 refine(vZ.o _ jq.o).mono ?_;rw [RD.o];rintro e v1 ⟨rfl,fO⟩;(obtain⟨cL,fv1⟩:=fJ fO;have Nr:w.heap.size<v1:=(ω fO.size);have Ns:w.heap.size+1<v1:=(ω fO.size);have Nu:w.heap.size+1+1<v1:=(ω fO.size);have Az:=η fO;clear fO)
 have T0:Hid (Grow _ v1):=η Az.o;have hz:∀u,(zeroValue 3).run Tryz.prog u=.ok (ι 0) u:=fun u=>by kernel_rfl
 have hmm:=@run_makeMap Tryz.prog;go_wp2_with (first|(refine vO zL Tryz.underlying139 rfl _ _ _ rfl (lD.new (enc:=uM) _) 4 (ι 2) rfl rfl rfl ?_))
 clear hmm;intro m1 hM1 hm1;have BE:Grow v1 m1:=((Grow.refl _).alloc (.map #[] 0)).grown hm1 (fun k hk=>by simp at hk;omega);have LC:=η hM1;clear hM1 hm1;go_wp2_with (first|(refine vO zL Tryz.underlying139 rfl _ _ _ rfl LC.o 5 (ι 3) rfl rfl rfl ?_))
 intro m2 hM2 hm2;have mI:Grow v1 m2:=BE.grown hm2 (fun k hk=>by simp at hk;omega);have FU:=η hM2;clear hM2 hm2 BE;have GM2:=η mI;have xY:Hid (Grow _ m2):=η (T0.o.trans mI);obtain⟨k0,k1,k2,k3,k4,k5,k6⟩:=aT (aj HR3.o xY.o);obtain⟨n0,n1,n2,n3⟩:=cells4 (aj xX.o xY.o);clear mI;go_wp2_with (first|(at_lookup;refine Dy zL Tryz.underlying139 hz rfl _ _ rfl FU.o 4 (ι 2) ρ rfl rfl ?_))
 clear k0 k1 k2 k3 k4 k5 k6;obtain⟨k0,k1,k2,k3,k4,k5,k6⟩:=aT (aj HR3.o xY.o);go_wp2_with fail
 have GW:Hid (Grow _ m2):=η xY.o;have GV:Hid (Grow w m2):=η (jq.o.trans GW.o);have ZV:Hid (w.heap.size+1+1<m2):=η (Array.getElem?_eq_some_iff.1 (aj Gm.o GW.o)).1;have hrr:Ty.rc.R (wk w.heap.size 3 (ov c w m2)) [ι (⟨2,dd,[]⟩:Rc).kind,ι dd,()] ⟨2,dd,[]⟩:=Ty.rc.mono (Dx HC.o 3) (show Ty.rc.R c [ι 2,ι dd,()] ⟨2,dd,[]⟩ from⟨_,rfl,(show I64 2 from by unfold I64;decide),lM.o.2.2.1,Sl.nil _ _⟩);refine(Dw (c:=wk w.heap.size 3 (ov c w m2)) (r:=⟨2,dd,[]⟩) m2 (QE HC.o GV.o 3) (Hq.o.mono (Dx HC.o 3)) ⟨_,rfl,hrr⟩ NR.o (by intro p hp;simp at hp) HN.o).mono ?_;clear hrr;generalize dV h ⟨2,dd,[]⟩=x at*;rintro e v3 ⟨vx,rfl,hX,fH⟩;obtain⟨eU,eX,kG,kH,o_,pq,rfl⟩:=hX.dF;have HX:=η hX;have oq:=η fH;clear hX;have Ah:Hid (Grow _ v3):=η (GW.o.trans fH);obtain⟨k0,k1,k2,k3,k4,k5,k6⟩:=aT (aj HR3.o Ah.o);have kf:=dA (aj HR3.o Ah.o);obtain⟨m0,m1,m2,m3⟩:=cells4 (aj xX.o Ah.o);clear fH;go_wp2_with (first|(refine wpList_store_row rfl (.tmp 3) (.tmp 54) rfl rfl rfl (aj HR3.o Ah.o) dL rfl rfl ?_))
 intro v4 r4 g4;have R3:=η r4;have JI:=η g4;clear r4 g4;have R5:Hid (v4.heap[w.heap.size+1]? =_):=η (aH (aj xX.o Ah.o) JI.o σ);have R6:Hid (v4.heap[w.heap.size+1+1]? =_):=η (aH (aj Gm.o Ah.o) JI.o (by simp;omega));clear k0 k1 k2 k3 k4 k5 k6 kf m0 m1 m2 m3;have xJ:Hid (Grow w v4):=η ((GV.o.trans oq.o).grown JI.o (fun k hk=>by simp at hk;omega));obtain⟨k0,k1,k2,k3,k4,k5,k6⟩:=aT R3.o;obtain⟨m0,m1,m2,m3⟩:=cells4 R5.o;go_wp2_with fail
 have i_:=η (fun(W:World) (hW:Grow v4 W)=>kQ (n:=dd) W ((Of.iw ((HX.o.mono (yx (w':=v4) (k:=3) GV.o oq.o (τ ZV.o) fun a u ha e=>by rw [dh JI.o (World.block_lt_of_cell? v3 a e) δ];exact e)).mono (sJ HC.o xJ.o))).2.2.mono hW.sub));go_wp2_with fail
 refine(i_.o _ (Grow.refl _)).mono ?_;rw [decide_eq_true Eu.o];rintro e v5 ⟨rfl,Ew⟩;have zu:=η Ew;clear k0 k1 k2 k3 k4 k5 k6 m0 m1 m2 m3;obtain⟨k0,k1,k2,k3,k4,k5,k6⟩:=aT (aj R3.o zu.o);obtain⟨m0,m1,m2,m3⟩:=cells4 (aj R5.o zu.o);clear Ew;go_wp2_with fail
 have hS:v5.cell? ⟨w.heap.size,0,none⟩=some (ς eU x.log.length eX)/\v5.cell? ⟨w.heap.size,1,none⟩=some (ι x.sums.a)/\v5.cell? ⟨w.heap.size,2,none⟩=some (ι x.sums.b)/\v5.cell? ⟨w.heap.size,3,none⟩=some (ι x.sums.c)/\v5.cell? ⟨w.heap.size,4,none⟩=some (ι x.sums.d)/\v5.cell? ⟨w.heap.size,5,none⟩=some (ς kG x.ready.length kH)/\v5.cell? ⟨w.heap.size,6,none⟩=some (ς o_ x.done.length pq)/\v5.cell? ⟨w.heap.size+1,1,none⟩=some (ι dd):=by refine⟨?_,?_,?_,?_,?_,?_,?_,?_⟩<;>go_simp
 have vY:Hid (Grow w v5):=η (xJ.o.trans zu.o);have R6:Hid (v5.heap[w.heap.size+1+1]? =some (.cells #[(),ι 0,ι 0,ι 0,ι 0,(),()] 50 (0,0))):=η (aj R6.o zu.o);have hz0:w.heap.size+1+1<v5:=(γ R6.o);obtain⟨s0,s1,s2,s3,s4,s5,s6,s7⟩:=hS;have HS:Hid (∀W,v5.grownBy W (some (w.heap.size+1+1))->W.cell? ⟨w.heap.size,0,none⟩=some (ς eU x.log.length eX)/\W.cell? ⟨w.heap.size,1,none⟩=some (ι x.sums.a)/\W.cell? ⟨w.heap.size,2,none⟩=some (ι x.sums.b)/\W.cell? ⟨w.heap.size,3,none⟩=some (ι x.sums.c)/\W.cell? ⟨w.heap.size,4,none⟩=some (ι x.sums.d)/\W.cell? ⟨w.heap.size,5,none⟩=some (ς kG x.ready.length kH)/\W.cell? ⟨w.heap.size,6,none⟩=some (ς o_ x.done.length pq)/\W.cell? ⟨w.heap.size+1,1,none⟩=some (ι dd)):=fun W hW=>by
  have k:∀(b o:Nat) (u:Value),b<w.heap.size+1+1->v5.cell? ⟨b,o,none⟩=some u->W.cell? ⟨b,o,none⟩=some u:=fun b o u hb e=>by
   rw [dh hW (World.block_lt_of_cell? v5 _ e) (by simp;omega)];exact e
  exact⟨k _ _ _ δ s0,k _ _ _ δ s1,k _ _ _ δ s2,k _ _ _ δ s3,k _ _ _ δ s4,k _ _ _ δ s5,k _ _ _ δ s6,k _ _ _ δ s7⟩
 clear s0 s1 s2 s3 s4 s5 s6 s7;refine bf (fun w'=>w'.cell? ⟨w.heap.size,0,none⟩=some (ς eU x.log.length eX)/\w'.cell? ⟨w.heap.size,1,none⟩=some (ι x.sums.a)/\w'.cell? ⟨w.heap.size,2,none⟩=some (ι x.sums.b)/\w'.cell? ⟨w.heap.size,3,none⟩=some (ι x.sums.c)/\w'.cell? ⟨w.heap.size,4,none⟩=some (ι x.sums.d)/\w'.cell? ⟨w.heap.size,5,none⟩=some (ς kG x.ready.length kH)/\w'.cell? ⟨w.heap.size,6,none⟩=some (ς o_ x.done.length pq)/\w'.cell? ⟨w.heap.size+1,1,none⟩=some (ι dd)) 8 κ ?_;obtain⟨wd,hWd⟩:∃x:World,x=v5.drew:=⟨_,rfl⟩;rw [<-hWd];have GD:Grow v5 wd:=by rw [hWd];exact(Grow.refl _).drew
 have zD:v5.heap.size=wd.heap.size:=by rw [hWd];rfl
 have ZD:=η zD;clear hWd zD;have hzd:w.heap.size+1+1<wd:=by have:=ZD.o;omega
 have hzw:w.heap.size<=wd.heap.size:=by have:=hzd;omega
 have FIN:Hid (∀(Wf:World) (q:Nat),w.heap.size<=q->(∀a:Addr,a.block<wd.heap.size->a.block≠w.heap.size+1+1->Wf.cell? a=wd.cell? a)->At Wf.cell? q 0 (#[ι 6,ι dd,ι me,()]:Array Value).toList->Grow w Wf->∃v1 v2,Ending.returned (.tuple #[.agg #[ς eU x.log.length eX,ι x.sums.a,ι x.sums.b,ι x.sums.c,ι x.sums.d,ς kG x.ready.length kH,ς o_ x.done.length pq],ς (some ⟨q,0,none⟩) 1 1])=.returned (.tuple #[v1,v2])/\Of Ty.hs (ov c w Wf) v1 (bg h ⟨4,dd,hh,ps⟩)/\Sl Ty.ms (ov c w Wf) v2 (bG h me ⟨4,dd,hh,ps⟩)/\Grow w Wf):=by
  intro Wf q hq hA hAt ZK;refine⟨_,_,rfl,?_,?_,ZK⟩
  ·rw [qx.o]
   exact HX.o.mono (yx (k:=3) GV.o oq.o (τ ZV.o) fun a u ha e=>by
    have l1:=World.block_lt_of_cell? v3 a e;have l2:=JI.o.size;have l3:=zu.o.size;have l4:=GD.size;rw [hA a δ δ,GD.cell δ,zu.o.cell δ,dh JI.o l1 δ];exact e)
  ·rw [qy.o]
   exact zT (T:=Ty.ms) ⟨_,rfl,(show I64 6 from by unfold I64;decide),lM.o.2.2.1,CW.o,Sl.nil _ _⟩ (Gv hAt hq) ε ε
 refine ni [0,1,2,3,4,5] 8 κ (fun _ _ _ _ _ h=>h) (HS.o _ (ak GD _)) ?_;repeat (refine gQ ?_;try simp only [aK])
 refine ny ?_;refine bP 6 7 κ rfl rfl ?_ ?_
 ·intro K HK
  try simp only [aV]
  go_simp;refine HK.o _ _ ⟨fun _=>HS.o _ (grownBy_trans (ak GD _) (ak ((Grow.refl _).alloc _) _)),?_⟩;clear HK K;try simp only [aK]
  refine bO 7 κ rfl ?_;intro K HK;refine aC rfl ?_;try simp only [aV]
  refine wp_store_row (.tmp 6) (.tmp 67) rfl rfl rfl (aj R6.o (GD.alloc _)) dL rfl rfl ?_;intro w7 r7 g7;refine HK.o _ _ ⟨fun _=>HS.o _ (grownBy_trans (grownBy_trans (ak GD _) (ak ((Grow.refl _).alloc _) _)) g7),?_⟩;clear HK K;try simp only [aK]
  refine bO 8 κ rfl ?_;intro K HK;try simp only [aV]
  go_simp;refine HK.o _ _ ⟨fun h=>absurd rfl h,?_⟩;clear HK K;try simp only [aK]
  refine aO κ ?_;obtain⟨p0,p1,p2,p3,p4,p5,p6⟩:=aT r7;go_wp2;refine bodyPost_ret (v:=.tuple #[.agg #[ς eU x.log.length eX,ι x.sums.a,ι x.sums.b,ι x.sums.c,ι x.sums.d,ς kG x.ready.length kH,ς o_ x.done.length pq],ς (some ⟨wd.heap.size,0,none⟩) 1 1]) (by simp [results,Tryz.results53,go_sem,p0,p1,p2,p3,p4,p5,p6]) rfl ?_;refine FIN.o _ wd.heap.size hzw (fun a h1 h2=>(dh g7 (by simp;omega) h2).trans (((Grow.refl wd).alloc _).cell h1)) (fun j u e=>(dh g7 σ (by simp;omega)).trans (at_new wd _ _ j u e)) ?_;exact(vY.o.trans (GD.alloc _)).grown g7 (fun k hk=>by simp at hk;omega)
 ·intro K HK
  refine aC rfl ?_;try simp only [aV]
  refine wp_store_row (.tmp 6) (.tmp 67) rfl rfl rfl (aj R6.o GD) dL rfl rfl ?_;intro w7 r7 g7;refine HK.o _ _ ⟨fun _=>HS.o _ (grownBy_trans (ak GD _) g7),?_⟩;clear HK K;try simp only [aK]
  refine bO 6 κ rfl ?_;intro K HK;try simp only [aV]
  go_simp;refine HK.o _ _ ⟨fun _=>HS.o _ (grownBy_trans (grownBy_trans (ak GD _) g7) (ak ((Grow.refl _).alloc _) _)),?_⟩;clear HK K;try simp only [aK]
  refine bO 8 κ rfl ?_;intro K HK;try simp only [aV]
  go_simp;refine HK.o _ _ ⟨fun h=>absurd rfl h,?_⟩;clear HK K;try simp only [aK]
  refine aO κ ?_;obtain⟨p0,p1,p2,p3,p4,p5,p6⟩:=aT (aB r7 (.cells #[ι 6,ι dd,ι me,()] 85));go_wp2;refine bodyPost_ret (v:=.tuple #[.agg #[ς eU x.log.length eX,ι x.sums.a,ι x.sums.b,ι x.sums.c,ι x.sums.d,ς kG x.ready.length kH,ς o_ x.done.length pq],ς (some ⟨w7.heap.size,0,none⟩) 1 1]) (by simp [results,Tryz.results53,go_sem,p0,p1,p2,p3,p4,p5,p6]) rfl ?_;refine FIN.o _ w7.heap.size (Nat.le_trans hzw g7.size) (fun a h1 h2=>(((Grow.refl w7).alloc _).cell (Nat.lt_of_lt_of_le h1 g7.size)).trans (dh g7 h1 h2)) (at_new w7 _ _) ?_;exact((vY.o.trans GD).grown g7 (fun k hk=>by simp at hk;omega)).alloc _
theorem Qe {c:CM} {v vm:Value} {h:Hs} {dd hh me:Int} {ps:List Pt} (w:World) (hc:Sub c w.cell?) (hv:Of Ty.hs c v h) (hm:Of Ty.ms c vm ⟨4,dd,hh,ps⟩) (hk:∀x∈h.log,dw x.parts) (hkm:dw ps) (hn:(h.log.length+1)*40<=140737488355328) (hme:I64 me) (rd:bM h.ready dd=false) (hin:dd∈h.done):
  Calls Tryz.prog 53 #[v,ι me,vm] w fun e w'=>∃v1 v2,e=.returned (.tuple #[v1,v2])/\Of Ty.hs (ov c w w') v1 (bg h ⟨4,dd,hh,ps⟩)/\Sl Ty.ms (ov c w w') v2 (bG h me ⟨4,dd,hh,ps⟩)/\Grow w w':=by
 obtain⟨al,cl,ar,cr,ad,cd,rfl⟩:=hv.dF;obtain⟨ap,cp,rfl⟩:∃ap cp,vm=.agg #[ι 4,ι dd,ι hh,ς ap ps.length cp]:=hm.fQ;have hms:Sl Ty.pt c (ς ap ps.length cp) ps/\I64 4/\I64 dd/\I64 hh:=Of.iG hm;have lM:=η hms;have Hq:=η hv;have HC:=η hc;have NR:=η hk;have Yo:=η hkm;have HN:=η hn;have CW:=η hme;have J9:=η (fun(W:World) (hW:Grow w W)=>kS (d:=dd) W (hv.mono (hc.trans hW.sub)) (hms.1.mono (hc.trans hW.sub)) hkm);have vZ:=η (fun(W:World) (hW:Grow w W)=>jf (d:=dd) W (hv.mono (hc.trans hW.sub)));have sS:=η (fun(W:World) (hW:Grow w W)=>kQ (n:=dd) W ((Of.iw hv).2.2.mono (hc.trans hW.sub)));have jq:Hid (Grow w (((w.alloc (.cells #[ς al h.log.length cl,ι h.sums.a,ι h.sums.b,ι h.sums.c,ι h.sums.d,ς ar h.ready.length cr,ς ad h.done.length cd] 50)).alloc (.cells #[ι 4,ι dd,ι hh,ς ap ps.length cp] 85)).alloc (.cells #[(),ι 0,ι 0,ι 0,ι 0,(),()] 50))):=η ((((Grow.refl w).alloc _).alloc _).alloc _);have HR3:Hid ((((w.alloc (.cells #[ς al h.log.length cl,ι h.sums.a,ι h.sums.b,ι h.sums.c,ι h.sums.d,ς ar h.ready.length cr,ς ad h.done.length cd] 50)).alloc (.cells #[ι 4,ι dd,ι hh,ς ap ps.length cp] 85)).alloc (.cells #[(),ι 0,ι 0,ι 0,ι 0,(),()] 50)).heap[w.heap.size]? =some (.cells #[ς al h.log.length cl,ι h.sums.a,ι h.sums.b,ι h.sums.c,ι h.sums.d,ς ar h.ready.length cr,ς ad h.done.length cd] 50 (0,0))):=η (aB (aB (aF _ _) _) _);have xX:Hid ((((w.alloc (.cells #[ς al h.log.length cl,ι h.sums.a,ι h.sums.b,ι h.sums.c,ι h.sums.d,ς ar h.ready.length cr,ς ad h.done.length cd] 50)).alloc (.cells #[ι 4,ι dd,ι hh,ς ap ps.length cp] 85)).alloc (.cells #[(),ι 0,ι 0,ι 0,ι 0,(),()] 50)).heap[w.heap.size+1]? =some (.cells #[ι 4,ι dd,ι hh,ς ap ps.length cp] 85 (0,0))):=η (aB (by simpa using aF (w.alloc (.cells #[ς al h.log.length cl,ι h.sums.a,ι h.sums.b,ι h.sums.c,ι h.sums.d,ς ar h.ready.length cr,ς ad h.done.length cd] 50)) _) _);have Gm:Hid ((((w.alloc (.cells #[ς al h.log.length cl,ι h.sums.a,ι h.sums.b,ι h.sums.c,ι h.sums.d,ς ar h.ready.length cr,ς ad h.done.length cd] 50)).alloc (.cells #[ι 4,ι dd,ι hh,ς ap ps.length cp] 85)).alloc (.cells #[(),ι 0,ι 0,ι 0,ι 0,(),()] 50)).heap[w.heap.size+1+1]? =some (.cells #[(),ι 0,ι 0,ι 0,ι 0,(),()] 50 (0,0))):=η (by simpa using aF ((w.alloc (.cells #[ς al h.log.length cl,ι h.sums.a,ι h.sums.b,ι h.sums.c,ι h.sums.d,ς ar h.ready.length cr,ς ad h.done.length cd] 50)).alloc (.cells #[ι 4,ι dd,ι hh,ς ap ps.length cp] 85)) _);clear hv hm hc hk hkm hn hme hms;have qx:Hid (bg h ⟨4,dd,hh,ps⟩=h):=by
  show bg h ⟨4,dd,hh,ps⟩=h;unfold bg;rw [if_neg (fun e=>by cases e),if_pos rfl,if_neg (by rw [show bM h.ready (Ms.deed ⟨4,dd,hh,ps⟩)=false from rd];simp)]
 have qy:Hid (bG h me ⟨4,dd,hh,ps⟩=kR 6 dd me):=by
  show bG h me ⟨4,dd,hh,ps⟩=kR 6 dd me;unfold bG;rw [if_neg (fun e=>by cases e),if_pos rfl,qx.o,if_pos hin]
 have Eu:=η hin;clear hin;have RD:=η rd;clear rd;go_enter Tryz.func53,Tryz.ntmps53;go_wp2_with fail
 refine(vZ.o _ jq.o).mono ?_;rw [RD.o];rintro e v1 ⟨rfl,fO⟩;(obtain⟨cL,fv1⟩:=fJ fO;have Nr:w.heap.size<v1:=(ω fO.size);have Ns:w.heap.size+1<v1:=(ω fO.size);have Nu:w.heap.size+1+1<v1:=(ω fO.size);have Az:=η fO;clear fO)
 go_wp2_with fail
 refine(sS.o _ (jq.o.trans Az.o)).mono ?_;rw [decide_eq_true Eu.o];rintro e v2 ⟨rfl,bZ⟩;(obtain⟨TZ,fv2⟩:=fJ bZ;have mC:w.heap.size<v2:=(ω bZ.size);have mE:w.heap.size+1<v2:=(ω bZ.size);have mH:w.heap.size+1+1<v2:=(ω bZ.size);have Yp:=η bZ;clear bZ)
 go_wp2_with fail
 have hS:v2.cell? ⟨w.heap.size,0,none⟩=some (ς al h.log.length cl)/\v2.cell? ⟨w.heap.size,1,none⟩=some (ι h.sums.a)/\v2.cell? ⟨w.heap.size,2,none⟩=some (ι h.sums.b)/\v2.cell? ⟨w.heap.size,3,none⟩=some (ι h.sums.c)/\v2.cell? ⟨w.heap.size,4,none⟩=some (ι h.sums.d)/\v2.cell? ⟨w.heap.size,5,none⟩=some (ς ar h.ready.length cr)/\v2.cell? ⟨w.heap.size,6,none⟩=some (ς ad h.done.length cd)/\v2.cell? ⟨w.heap.size+1,1,none⟩=some (ι dd):=by refine⟨?_,?_,?_,?_,?_,?_,?_,?_⟩<;>go_simp
 have vY:Hid (Grow w v2):=η ((jq.o.trans Az.o).trans Yp.o);have R6:Hid (v2.heap[w.heap.size+1+1]? =some (.cells #[(),ι 0,ι 0,ι 0,ι 0,(),()] 50 (0,0))):=η (aj Gm.o (Az.o.trans Yp.o));have hz0:w.heap.size+1+1<v2:=(γ R6.o);obtain⟨s0,s1,s2,s3,s4,s5,s6,s7⟩:=hS;have HS:Hid (∀W,v2.grownBy W (some (w.heap.size+1+1))->W.cell? ⟨w.heap.size,0,none⟩=some (ς al h.log.length cl)/\W.cell? ⟨w.heap.size,1,none⟩=some (ι h.sums.a)/\W.cell? ⟨w.heap.size,2,none⟩=some (ι h.sums.b)/\W.cell? ⟨w.heap.size,3,none⟩=some (ι h.sums.c)/\W.cell? ⟨w.heap.size,4,none⟩=some (ι h.sums.d)/\W.cell? ⟨w.heap.size,5,none⟩=some (ς ar h.ready.length cr)/\W.cell? ⟨w.heap.size,6,none⟩=some (ς ad h.done.length cd)/\W.cell? ⟨w.heap.size+1,1,none⟩=some (ι dd)):=fun W hW=>by
  have k:∀(b o:Nat) (u:Value),b<w.heap.size+1+1->v2.cell? ⟨b,o,none⟩=some u->W.cell? ⟨b,o,none⟩=some u:=fun b o u hb e=>by
   rw [dh hW (World.block_lt_of_cell? v2 _ e) (by simp;omega)];exact e
  exact⟨k _ _ _ δ s0,k _ _ _ δ s1,k _ _ _ δ s2,k _ _ _ δ s3,k _ _ _ δ s4,k _ _ _ δ s5,k _ _ _ δ s6,k _ _ _ δ s7⟩
 clear s0 s1 s2 s3 s4 s5 s6 s7;refine bf (fun w'=>w'.cell? ⟨w.heap.size,0,none⟩=some (ς al h.log.length cl)/\w'.cell? ⟨w.heap.size,1,none⟩=some (ι h.sums.a)/\w'.cell? ⟨w.heap.size,2,none⟩=some (ι h.sums.b)/\w'.cell? ⟨w.heap.size,3,none⟩=some (ι h.sums.c)/\w'.cell? ⟨w.heap.size,4,none⟩=some (ι h.sums.d)/\w'.cell? ⟨w.heap.size,5,none⟩=some (ς ar h.ready.length cr)/\w'.cell? ⟨w.heap.size,6,none⟩=some (ς ad h.done.length cd)/\w'.cell? ⟨w.heap.size+1,1,none⟩=some (ι dd)) 8 κ ?_;obtain⟨wd,hWd⟩:∃x:World,x=v2.drew:=⟨_,rfl⟩;rw [<-hWd];have GD:Grow v2 wd:=by rw [hWd];exact(Grow.refl _).drew
 have zD:v2.heap.size=wd.heap.size:=by rw [hWd];rfl
 have ZD:=η zD;clear hWd zD;have hzd:w.heap.size+1+1<wd:=by have:=ZD.o;omega
 have hzw:w.heap.size<=wd.heap.size:=by have:=hzd;omega
 have FIN:Hid (∀(Wf:World) (q:Nat),w.heap.size<=q->(∀a:Addr,a.block<wd.heap.size->a.block≠w.heap.size+1+1->Wf.cell? a=wd.cell? a)->At Wf.cell? q 0 (#[ι 6,ι dd,ι me,()]:Array Value).toList->Grow w Wf->∃v1 v2,Ending.returned (.tuple #[.agg #[ς al h.log.length cl,ι h.sums.a,ι h.sums.b,ι h.sums.c,ι h.sums.d,ς ar h.ready.length cr,ς ad h.done.length cd],ς (some ⟨q,0,none⟩) 1 1])=.returned (.tuple #[v1,v2])/\Of Ty.hs (ov c w Wf) v1 (bg h ⟨4,dd,hh,ps⟩)/\Sl Ty.ms (ov c w Wf) v2 (bG h me ⟨4,dd,hh,ps⟩)/\Grow w Wf):=by
  intro Wf q hq hA hAt ZK;refine⟨_,_,rfl,?_,?_,ZK⟩
  ·rw [qx.o]
   exact Hq.o.mono (dM HC.o)
  ·rw [qy.o]
   exact zT (T:=Ty.ms) ⟨_,rfl,(show I64 6 from by unfold I64;decide),lM.o.2.2.1,CW.o,Sl.nil _ _⟩ (Gv hAt hq) ε ε
 refine ni [0,1,2,3,4,5] 8 κ (fun _ _ _ _ _ h=>h) (HS.o _ (ak GD _)) ?_;repeat (refine gQ ?_;try simp only [aK])
 refine ny ?_;refine bP 6 7 κ rfl rfl ?_ ?_
 ·intro K HK
  try simp only [aV]
  go_simp;refine HK.o _ _ ⟨fun _=>HS.o _ (grownBy_trans (ak GD _) (ak ((Grow.refl _).alloc _) _)),?_⟩;clear HK K;try simp only [aK]
  refine bO 7 κ rfl ?_;intro K HK;refine aC rfl ?_;try simp only [aV]
  refine wp_store_row (.tmp 6) (.tmp 67) rfl rfl rfl (aj R6.o (GD.alloc _)) dL rfl rfl ?_;intro w7 r7 g7;refine HK.o _ _ ⟨fun _=>HS.o _ (grownBy_trans (grownBy_trans (ak GD _) (ak ((Grow.refl _).alloc _) _)) g7),?_⟩;clear HK K;try simp only [aK]
  refine bO 8 κ rfl ?_;intro K HK;try simp only [aV]
  go_simp;refine HK.o _ _ ⟨fun h=>absurd rfl h,?_⟩;clear HK K;try simp only [aK]
  refine aO κ ?_;obtain⟨p0,p1,p2,p3,p4,p5,p6⟩:=aT r7;go_wp2;refine bodyPost_ret (v:=.tuple #[.agg #[ς al h.log.length cl,ι h.sums.a,ι h.sums.b,ι h.sums.c,ι h.sums.d,ς ar h.ready.length cr,ς ad h.done.length cd],ς (some ⟨wd.heap.size,0,none⟩) 1 1]) (by simp [results,Tryz.results53,go_sem,p0,p1,p2,p3,p4,p5,p6]) rfl ?_;refine FIN.o _ wd.heap.size hzw (fun a h1 h2=>(dh g7 (by simp;omega) h2).trans (((Grow.refl wd).alloc _).cell h1)) (fun j u e=>(dh g7 σ (by simp;omega)).trans (at_new wd _ _ j u e)) ?_;exact(vY.o.trans (GD.alloc _)).grown g7 (fun k hk=>by simp at hk;omega)
 ·intro K HK
  refine aC rfl ?_;try simp only [aV]
  refine wp_store_row (.tmp 6) (.tmp 67) rfl rfl rfl (aj R6.o GD) dL rfl rfl ?_;intro w7 r7 g7;refine HK.o _ _ ⟨fun _=>HS.o _ (grownBy_trans (ak GD _) g7),?_⟩;clear HK K;try simp only [aK]
  refine bO 6 κ rfl ?_;intro K HK;try simp only [aV]
  go_simp;refine HK.o _ _ ⟨fun _=>HS.o _ (grownBy_trans (grownBy_trans (ak GD _) g7) (ak ((Grow.refl _).alloc _) _)),?_⟩;clear HK K;try simp only [aK]
  refine bO 8 κ rfl ?_;intro K HK;try simp only [aV]
  go_simp;refine HK.o _ _ ⟨fun h=>absurd rfl h,?_⟩;clear HK K;try simp only [aK]
  refine aO κ ?_;obtain⟨p0,p1,p2,p3,p4,p5,p6⟩:=aT (aB r7 (.cells #[ι 6,ι dd,ι me,()] 85));go_wp2;refine bodyPost_ret (v:=.tuple #[.agg #[ς al h.log.length cl,ι h.sums.a,ι h.sums.b,ι h.sums.c,ι h.sums.d,ς ar h.ready.length cr,ς ad h.done.length cd],ς (some ⟨w7.heap.size,0,none⟩) 1 1]) (by simp [results,Tryz.results53,go_sem,p0,p1,p2,p3,p4,p5,p6]) rfl ?_;refine FIN.o _ w7.heap.size (Nat.le_trans hzw g7.size) (fun a h1 h2=>(((Grow.refl w7).alloc _).cell (Nat.lt_of_lt_of_le h1 g7.size)).trans (dh g7 h1 h2)) (at_new w7 _ _) ?_;exact((vY.o.trans GD).grown g7 (fun k hk=>by simp at hk;omega)).alloc _
theorem Qg {c:CM} {v vm:Value} {h:Hs} {dd hh me:Int} {ps:List Pt} (w:World) (hc:Sub c w.cell?) (hv:Of Ty.hs c v h) (hm:Of Ty.ms c vm ⟨4,dd,hh,ps⟩) (hk:∀x∈h.log,dw x.parts) (hkm:dw ps) (hn:(h.log.length+1)*40<=140737488355328) (hme:I64 me) (rd:bM h.ready dd=false) (hin:dd∉h.done):
  Calls Tryz.prog 53 #[v,ι me,vm] w fun e w'=>∃v1 v2,e=.returned (.tuple #[v1,v2])/\Of Ty.hs (ov c w w') v1 (bg h ⟨4,dd,hh,ps⟩)/\Sl Ty.ms (ov c w w') v2 (bG h me ⟨4,dd,hh,ps⟩)/\Grow w w':=by
 obtain⟨al,cl,ar,cr,ad,cd,rfl⟩:=hv.dF;obtain⟨ap,cp,rfl⟩:∃ap cp,vm=.agg #[ι 4,ι dd,ι hh,ς ap ps.length cp]:=hm.fQ;have hms:Sl Ty.pt c (ς ap ps.length cp) ps/\I64 4/\I64 dd/\I64 hh:=Of.iG hm;have lM:=η hms;have Hq:=η hv;have HC:=η hc;have NR:=η hk;have Yo:=η hkm;have HN:=η hn;have CW:=η hme;have J9:=η (fun(W:World) (hW:Grow w W)=>kS (d:=dd) W (hv.mono (hc.trans hW.sub)) (hms.1.mono (hc.trans hW.sub)) hkm);have vZ:=η (fun(W:World) (hW:Grow w W)=>jf (d:=dd) W (hv.mono (hc.trans hW.sub)));have sS:=η (fun(W:World) (hW:Grow w W)=>kQ (n:=dd) W ((Of.iw hv).2.2.mono (hc.trans hW.sub)));have jq:Hid (Grow w (((w.alloc (.cells #[ς al h.log.length cl,ι h.sums.a,ι h.sums.b,ι h.sums.c,ι h.sums.d,ς ar h.ready.length cr,ς ad h.done.length cd] 50)).alloc (.cells #[ι 4,ι dd,ι hh,ς ap ps.length cp] 85)).alloc (.cells #[(),ι 0,ι 0,ι 0,ι 0,(),()] 50))):=η ((((Grow.refl w).alloc _).alloc _).alloc _);have HR3:Hid ((((w.alloc (.cells #[ς al h.log.length cl,ι h.sums.a,ι h.sums.b,ι h.sums.c,ι h.sums.d,ς ar h.ready.length cr,ς ad h.done.length cd] 50)).alloc (.cells #[ι 4,ι dd,ι hh,ς ap ps.length cp] 85)).alloc (.cells #[(),ι 0,ι 0,ι 0,ι 0,(),()] 50)).heap[w.heap.size]? =some (.cells #[ς al h.log.length cl,ι h.sums.a,ι h.sums.b,ι h.sums.c,ι h.sums.d,ς ar h.ready.length cr,ς ad h.done.length cd] 50 (0,0))):=η (aB (aB (aF _ _) _) _);have xX:Hid ((((w.alloc (.cells #[ς al h.log.length cl,ι h.sums.a,ι h.sums.b,ι h.sums.c,ι h.sums.d,ς ar h.ready.length cr,ς ad h.done.length cd] 50)).alloc (.cells #[ι 4,ι dd,ι hh,ς ap ps.length cp] 85)).alloc (.cells #[(),ι 0,ι 0,ι 0,ι 0,(),()] 50)).heap[w.heap.size+1]? =some (.cells #[ι 4,ι dd,ι hh,ς ap ps.length cp] 85 (0,0))):=η (aB (by simpa using aF (w.alloc (.cells #[ς al h.log.length cl,ι h.sums.a,ι h.sums.b,ι h.sums.c,ι h.sums.d,ς ar h.ready.length cr,ς ad h.done.length cd] 50)) _) _);have Gm:Hid ((((w.alloc (.cells #[ς al h.log.length cl,ι h.sums.a,ι h.sums.b,ι h.sums.c,ι h.sums.d,ς ar h.ready.length cr,ς ad h.done.length cd] 50)).alloc (.cells #[ι 4,ι dd,ι hh,ς ap ps.length cp] 85)).alloc (.cells #[(),ι 0,ι 0,ι 0,ι 0,(),()] 50)).heap[w.heap.size+1+1]? =some (.cells #[(),ι 0,ι 0,ι 0,ι 0,(),()] 50 (0,0))):=η (by simpa using aF ((w.alloc (.cells #[ς al h.log.length cl,ι h.sums.a,ι h.sums.b,ι h.sums.c,ι h.sums.d,ς ar h.ready.length cr,ς ad h.done.length cd] 50)).alloc (.cells #[ι 4,ι dd,ι hh,ς ap ps.length cp] 85)) _);clear hv hm hc hk hkm hn hme hms;have qx:Hid (bg h ⟨4,dd,hh,ps⟩=h):=by
  show bg h ⟨4,dd,hh,ps⟩=h;unfold bg;rw [if_neg (fun e=>by cases e),if_pos rfl,if_neg (by rw [show bM h.ready (Ms.deed ⟨4,dd,hh,ps⟩)=false from rd];simp)]
 have qy:Hid (bG h me ⟨4,dd,hh,ps⟩=[]):=by
  show bG h me ⟨4,dd,hh,ps⟩=[];unfold bG;rw [if_neg (fun e=>by cases e),if_pos rfl,qx.o,if_neg hin]
 have Eu:=η hin;clear hin;have RD:=η rd;clear rd;go_enter Tryz.func53,Tryz.ntmps53;go_wp2_with fail
 refine(vZ.o _ jq.o).mono ?_;rw [RD.o];rintro e v1 ⟨rfl,fO⟩;(obtain⟨cL,fv1⟩:=fJ fO;have Nr:w.heap.size<v1:=(ω fO.size);have Ns:w.heap.size+1<v1:=(ω fO.size);have Nu:w.heap.size+1+1<v1:=(ω fO.size);have Az:=η fO;clear fO)
 go_wp2_with fail
 refine(sS.o _ (jq.o.trans Az.o)).mono ?_;rw [decide_eq_false Eu.o];rintro e v2 ⟨rfl,bZ⟩;(obtain⟨TZ,fv2⟩:=fJ bZ;have mC:w.heap.size<v2:=(ω bZ.size);have mE:w.heap.size+1<v2:=(ω bZ.size);have mH:w.heap.size+1+1<v2:=(ω bZ.size);have Yp:=η bZ;clear bZ)
 have R6:=aj Gm.o (Az.o.trans Yp.o);obtain⟨p0,p1,p2,p3,p4,p5,p6⟩:=aT R6;have pf:=dA R6;obtain⟨s0,s1,s2,s3,s4,s5,s6,s7⟩:v2.cell? ⟨w.heap.size,0,none⟩=some (ς al h.log.length cl)/\v2.cell? ⟨w.heap.size,1,none⟩=some (ι h.sums.a)/\v2.cell? ⟨w.heap.size,2,none⟩=some (ι h.sums.b)/\v2.cell? ⟨w.heap.size,3,none⟩=some (ι h.sums.c)/\v2.cell? ⟨w.heap.size,4,none⟩=some (ι h.sums.d)/\v2.cell? ⟨w.heap.size,5,none⟩=some (ς ar h.ready.length cr)/\v2.cell? ⟨w.heap.size,6,none⟩=some (ς ad h.done.length cd)/\v2.cell? ⟨w.heap.size+1,1,none⟩=some (ι dd):=by refine⟨?_,?_,?_,?_,?_,?_,?_,?_⟩<;>go_simp
 clear R6;go_wp2;refine bodyPost_ret (v:=.tuple #[.agg #[ς al h.log.length cl,ι h.sums.a,ι h.sums.b,ι h.sums.c,ι h.sums.d,ς ar h.ready.length cr,ς ad h.done.length cd],()]) (by simp [results,Tryz.results53,go_sem,p0,p1,p2,p3,p4,p5,p6]) rfl ?_;rw [qx.o,qy.o];refine⟨_,_,rfl,?_,Sl.nil _ _,?_⟩
 ·exact Hq.o.mono (dM HC.o)
 ·(repeat (with_reducible refine Grow.setCell ?_ (by first|(simp;done)|(simp;omega)|omega) _))
  exact(jq.o.trans Az.o).trans Yp.o
theorem Qh {c:CM} {v vm:Value} {h:Hs} {dd hh me:Int} {ps:List Pt} (w:World) (hc:Sub c w.cell?) (hv:Of Ty.hs c v h) (hm:Of Ty.ms c vm ⟨5,dd,hh,ps⟩) (hk:∀x∈h.log,dw x.parts) (hkm:dw ps) (hn:(h.log.length+1)*40<=140737488355328) (hme:I64 me) (rd:bM h.ready dd=true):
  Calls Tryz.prog 53 #[v,ι me,vm] w fun e w'=>∃v1 v2,e=.returned (.tuple #[v1,v2])/\Of Ty.hs (ov c w w') v1 (bg h ⟨5,dd,hh,ps⟩)/\Sl Ty.ms (ov c w w') v2 (bG h me ⟨5,dd,hh,ps⟩)/\Grow w w':=by
 obtain⟨al,cl,ar,cr,ad,cd,rfl⟩:=hv.dF;obtain⟨ap,cp,rfl⟩:∃ap cp,vm=.agg #[ι 5,ι dd,ι hh,ς ap ps.length cp]:=hm.fQ;have hms:Sl Ty.pt c (ς ap ps.length cp) ps/\I64 5/\I64 dd/\I64 hh:=Of.iG hm;have lM:=η hms;have Hq:=η hv;have HC:=η hc;have NR:=η hk;have Yo:=η hkm;have HN:=η hn;have CW:=η hme;have J9:=η (fun(W:World) (hW:Grow w W)=>kS (d:=dd) W (hv.mono (hc.trans hW.sub)) (hms.1.mono (hc.trans hW.sub)) hkm);have vZ:=η (fun(W:World) (hW:Grow w W)=>jf (d:=dd) W (hv.mono (hc.trans hW.sub)));have sS:=η (fun(W:World) (hW:Grow w W)=>kQ (n:=dd) W ((Of.iw hv).2.2.mono (hc.trans hW.sub)));have jq:Hid (Grow w (((w.alloc (.cells #[ς al h.log.length cl,ι h.sums.a,ι h.sums.b,ι h.sums.c,ι h.sums.d,ς ar h.ready.length cr,ς ad h.done.length cd] 50)).alloc (.cells #[ι 5,ι dd,ι hh,ς ap ps.length cp] 85)).alloc (.cells #[(),ι 0,ι 0,ι 0,ι 0,(),()] 50))):=η ((((Grow.refl w).alloc _).alloc _).alloc _);have HR3:Hid ((((w.alloc (.cells #[ς al h.log.length cl,ι h.sums.a,ι h.sums.b,ι h.sums.c,ι h.sums.d,ς ar h.ready.length cr,ς ad h.done.length cd] 50)).alloc (.cells #[ι 5,ι dd,ι hh,ς ap ps.length cp] 85)).alloc (.cells #[(),ι 0,ι 0,ι 0,ι 0,(),()] 50)).heap[w.heap.size]? =some (.cells #[ς al h.log.length cl,ι h.sums.a,ι h.sums.b,ι h.sums.c,ι h.sums.d,ς ar h.ready.length cr,ς ad h.done.length cd] 50 (0,0))):=η (aB (aB (aF _ _) _) _);have xX:Hid ((((w.alloc (.cells #[ς al h.log.length cl,ι h.sums.a,ι h.sums.b,ι h.sums.c,ι h.sums.d,ς ar h.ready.length cr,ς ad h.done.length cd] 50)).alloc (.cells #[ι 5,ι dd,ι hh,ς ap ps.length cp] 85)).alloc (.cells #[(),ι 0,ι 0,ι 0,ι 0,(),()] 50)).heap[w.heap.size+1]? =some (.cells #[ι 5,ι dd,ι hh,ς ap ps.length cp] 85 (0,0))):=η (aB (by simpa using aF (w.alloc (.cells #[ς al h.log.length cl,ι h.sums.a,ι h.sums.b,ι h.sums.c,ι h.sums.d,ς ar h.ready.length cr,ς ad h.done.length cd] 50)) _) _);have Gm:Hid ((((w.alloc (.cells #[ς al h.log.length cl,ι h.sums.a,ι h.sums.b,ι h.sums.c,ι h.sums.d,ς ar h.ready.length cr,ς ad h.done.length cd] 50)).alloc (.cells #[ι 5,ι dd,ι hh,ς ap ps.length cp] 85)).alloc (.cells #[(),ι 0,ι 0,ι 0,ι 0,(),()] 50)).heap[w.heap.size+1+1]? =some (.cells #[(),ι 0,ι 0,ι 0,ι 0,(),()] 50 (0,0))):=η (by simpa using aF ((w.alloc (.cells #[ς al h.log.length cl,ι h.sums.a,ι h.sums.b,ι h.sums.c,ι h.sums.d,ς ar h.ready.length cr,ς ad h.done.length cd] 50)).alloc (.cells #[ι 5,ι dd,ι hh,ς ap ps.length cp] 85)) _);clear hv hm hc hk hkm hn hme hms;have qx:Hid (bg h ⟨5,dd,hh,ps⟩=dV h ⟨3,dd,[]⟩):=by
  show bg h ⟨5,dd,hh,ps⟩=dV h ⟨3,dd,[]⟩;unfold bg;rw [if_neg (fun e=>by cases e),if_neg (fun e=>by cases e),if_pos rfl,if_pos rd]
 have qy:Hid (bG h me ⟨5,dd,hh,ps⟩=[]):=by
  show bG h me ⟨5,dd,hh,ps⟩=[];unfold bG;rw [if_neg (fun e=>by cases e),if_neg (fun e=>by cases e)]
 have RD:=η rd;clear rd;go_enter Tryz.func53,Tryz.ntmps53;go_wp2_with fail
 refine(vZ.o _ jq.o).mono ?_;rw [RD.o];rintro e v1 ⟨rfl,fO⟩;(obtain⟨cL,fv1⟩:=fJ fO;have Nr:w.heap.size<v1:=(ω fO.size);have Ns:w.heap.size+1<v1:=(ω fO.size);have Nu:w.heap.size+1+1<v1:=(ω fO.size);have Az:=η fO;clear fO)
 have T0:Hid (Grow _ v1):=η Az.o;have hz:∀u,(zeroValue 3).run Tryz.prog u=.ok (ι 0) u:=fun u=>by kernel_rfl
 have hmm:=@run_makeMap Tryz.prog;go_wp2_with (first|(refine vO zL Tryz.underlying139 rfl _ _ _ rfl (lD.new (enc:=uM) _) 4 (ι 2) rfl rfl rfl ?_))
 clear hmm;intro m1 hM1 hm1;have BE:Grow v1 m1:=((Grow.refl _).alloc (.map #[] 0)).grown hm1 (fun k hk=>by simp at hk;omega);have LC:=η hM1;clear hM1 hm1;go_wp2_with (first|(refine vO zL Tryz.underlying139 rfl _ _ _ rfl LC.o 5 (ι 3) rfl rfl rfl ?_))
 intro m2 hM2 hm2;have mI:Grow v1 m2:=BE.grown hm2 (fun k hk=>by simp at hk;omega);have FU:=η hM2;clear hM2 hm2 BE;have GM2:=η mI;have xY:Hid (Grow _ m2):=η (T0.o.trans mI);obtain⟨k0,k1,k2,k3,k4,k5,k6⟩:=aT (aj HR3.o xY.o);obtain⟨n0,n1,n2,n3⟩:=cells4 (aj xX.o xY.o);clear mI;go_wp2_with (first|(at_lookup;refine Dy zL Tryz.underlying139 hz rfl _ _ rfl FU.o 5 (ι 3) ρ rfl rfl ?_))
 clear k0 k1 k2 k3 k4 k5 k6;obtain⟨k0,k1,k2,k3,k4,k5,k6⟩:=aT (aj HR3.o xY.o);go_wp2_with fail
 have GW:Hid (Grow _ m2):=η xY.o;have GV:Hid (Grow w m2):=η (jq.o.trans GW.o);have ZV:Hid (w.heap.size+1+1<m2):=η (Array.getElem?_eq_some_iff.1 (aj Gm.o GW.o)).1;have hrr:Ty.rc.R (wk w.heap.size 3 (ov c w m2)) [ι (⟨3,dd,[]⟩:Rc).kind,ι dd,()] ⟨3,dd,[]⟩:=Ty.rc.mono (Dx HC.o 3) (show Ty.rc.R c [ι 3,ι dd,()] ⟨3,dd,[]⟩ from⟨_,rfl,(show I64 3 from by unfold I64;decide),lM.o.2.2.1,Sl.nil _ _⟩);refine(Dw (c:=wk w.heap.size 3 (ov c w m2)) (r:=⟨3,dd,[]⟩) m2 (QE HC.o GV.o 3) (Hq.o.mono (Dx HC.o 3)) ⟨_,rfl,hrr⟩ NR.o (by intro p hp;simp at hp) HN.o).mono ?_;clear hrr;generalize dV h ⟨3,dd,[]⟩=x at*;rintro e v3 ⟨vx,rfl,hX,fH⟩;obtain⟨eU,eX,kG,kH,o_,pq,rfl⟩:=hX.dF;have HX:=η hX;have oq:=η fH;clear hX;have Ah:Hid (Grow _ v3):=η (GW.o.trans fH);obtain⟨k0,k1,k2,k3,k4,k5,k6⟩:=aT (aj HR3.o Ah.o);have kf:=dA (aj HR3.o Ah.o);obtain⟨m0,m1,m2,m3⟩:=cells4 (aj xX.o Ah.o);clear fH;go_wp2_with (first|(refine wpList_store_row rfl (.tmp 3) (.tmp 54) rfl rfl rfl (aj HR3.o Ah.o) dL rfl rfl ?_))
 intro v4 r4 g4;have R3:=η r4;have JI:=η g4;clear r4 g4;have R5:Hid (v4.heap[w.heap.size+1]? =_):=η (aH (aj xX.o Ah.o) JI.o σ);have R6:Hid (v4.heap[w.heap.size+1+1]? =_):=η (aH (aj Gm.o Ah.o) JI.o (by simp;omega));clear k0 k1 k2 k3 k4 k5 k6 kf m0 m1 m2 m3;have xJ:Hid (Grow w v4):=η ((GV.o.trans oq.o).grown JI.o (fun k hk=>by simp at hk;omega));obtain⟨k0,k1,k2,k3,k4,k5,k6⟩:=aT R3.o;obtain⟨m0,m1,m2,m3⟩:=cells4 R5.o;have T1:=R6.o;obtain⟨p0,p1,p2,p3,p4,p5,p6⟩:=aT T1;have pf:=dA T1;obtain⟨s0,s1,s2,s3,s4,s5,s6,s7⟩:v4.cell? ⟨w.heap.size,0,none⟩=some (ς eU x.log.length eX)/\v4.cell? ⟨w.heap.size,1,none⟩=some (ι x.sums.a)/\v4.cell? ⟨w.heap.size,2,none⟩=some (ι x.sums.b)/\v4.cell? ⟨w.heap.size,3,none⟩=some (ι x.sums.c)/\v4.cell? ⟨w.heap.size,4,none⟩=some (ι x.sums.d)/\v4.cell? ⟨w.heap.size,5,none⟩=some (ς kG x.ready.length kH)/\v4.cell? ⟨w.heap.size,6,none⟩=some (ς o_ x.done.length pq)/\v4.cell? ⟨w.heap.size+1,1,none⟩=some (ι dd):=by refine⟨?_,?_,?_,?_,?_,?_,?_,?_⟩<;>go_simp
 clear T1;go_wp2;refine bodyPost_ret (v:=.tuple #[.agg #[ς eU x.log.length eX,ι x.sums.a,ι x.sums.b,ι x.sums.c,ι x.sums.d,ς kG x.ready.length kH,ς o_ x.done.length pq],()]) (by simp [results,Tryz.results53,go_sem,p0,p1,p2,p3,p4,p5,p6]) rfl ?_;rw [qx.o,qy.o];refine⟨_,_,rfl,?_,Sl.nil _ _,?_⟩
 ·refine HX.o.mono (yx (k:=3) GV.o oq.o (τ ZV.o) fun a u ha e=>?_)
  have l1:=World.block_lt_of_cell? v3 a e;have l2:=JI.o.size;have e4:v4.cell? a=some u:=by rw [dh JI.o l1 δ];exact e
  exact(dh (YF v4 (w.heap.size+1+1) _ _ _ _ _ _ _) (show a.block<v4.heap.size by omega) (show a.block≠w.heap.size+1+1 by omega)).trans e4
 ·(repeat (with_reducible refine Grow.setCell ?_ (by first|(simp;done)|(simp;omega)|omega) _))
  exact xJ.o
theorem Qi {c:CM} {v vm:Value} {h:Hs} {dd hh me:Int} {ps:List Pt} (w:World) (hc:Sub c w.cell?) (hv:Of Ty.hs c v h) (hm:Of Ty.ms c vm ⟨5,dd,hh,ps⟩) (hk:∀x∈h.log,dw x.parts) (hkm:dw ps) (hn:(h.log.length+1)*40<=140737488355328) (hme:I64 me) (rd:bM h.ready dd=false):
  Calls Tryz.prog 53 #[v,ι me,vm] w fun e w'=>∃v1 v2,e=.returned (.tuple #[v1,v2])/\Of Ty.hs (ov c w w') v1 (bg h ⟨5,dd,hh,ps⟩)/\Sl Ty.ms (ov c w w') v2 (bG h me ⟨5,dd,hh,ps⟩)/\Grow w w':=by
 obtain⟨al,cl,ar,cr,ad,cd,rfl⟩:=hv.dF;obtain⟨ap,cp,rfl⟩:∃ap cp,vm=.agg #[ι 5,ι dd,ι hh,ς ap ps.length cp]:=hm.fQ;have hms:Sl Ty.pt c (ς ap ps.length cp) ps/\I64 5/\I64 dd/\I64 hh:=Of.iG hm;have lM:=η hms;have Hq:=η hv;have HC:=η hc;have NR:=η hk;have Yo:=η hkm;have HN:=η hn;have CW:=η hme;have J9:=η (fun(W:World) (hW:Grow w W)=>kS (d:=dd) W (hv.mono (hc.trans hW.sub)) (hms.1.mono (hc.trans hW.sub)) hkm);have vZ:=η (fun(W:World) (hW:Grow w W)=>jf (d:=dd) W (hv.mono (hc.trans hW.sub)));have sS:=η (fun(W:World) (hW:Grow w W)=>kQ (n:=dd) W ((Of.iw hv).2.2.mono (hc.trans hW.sub)));have jq:Hid (Grow w (((w.alloc (.cells #[ς al h.log.length cl,ι h.sums.a,ι h.sums.b,ι h.sums.c,ι h.sums.d,ς ar h.ready.length cr,ς ad h.done.length cd] 50)).alloc (.cells #[ι 5,ι dd,ι hh,ς ap ps.length cp] 85)).alloc (.cells #[(),ι 0,ι 0,ι 0,ι 0,(),()] 50))):=η ((((Grow.refl w).alloc _).alloc _).alloc _);have HR3:Hid ((((w.alloc (.cells #[ς al h.log.length cl,ι h.sums.a,ι h.sums.b,ι h.sums.c,ι h.sums.d,ς ar h.ready.length cr,ς ad h.done.length cd] 50)).alloc (.cells #[ι 5,ι dd,ι hh,ς ap ps.length cp] 85)).alloc (.cells #[(),ι 0,ι 0,ι 0,ι 0,(),()] 50)).heap[w.heap.size]? =some (.cells #[ς al h.log.length cl,ι h.sums.a,ι h.sums.b,ι h.sums.c,ι h.sums.d,ς ar h.ready.length cr,ς ad h.done.length cd] 50 (0,0))):=η (aB (aB (aF _ _) _) _);have xX:Hid ((((w.alloc (.cells #[ς al h.log.length cl,ι h.sums.a,ι h.sums.b,ι h.sums.c,ι h.sums.d,ς ar h.ready.length cr,ς ad h.done.length cd] 50)).alloc (.cells #[ι 5,ι dd,ι hh,ς ap ps.length cp] 85)).alloc (.cells #[(),ι 0,ι 0,ι 0,ι 0,(),()] 50)).heap[w.heap.size+1]? =some (.cells #[ι 5,ι dd,ι hh,ς ap ps.length cp] 85 (0,0))):=η (aB (by simpa using aF (w.alloc (.cells #[ς al h.log.length cl,ι h.sums.a,ι h.sums.b,ι h.sums.c,ι h.sums.d,ς ar h.ready.length cr,ς ad h.done.length cd] 50)) _) _);have Gm:Hid ((((w.alloc (.cells #[ς al h.log.length cl,ι h.sums.a,ι h.sums.b,ι h.sums.c,ι h.sums.d,ς ar h.ready.length cr,ς ad h.done.length cd] 50)).alloc (.cells #[ι 5,ι dd,ι hh,ς ap ps.length cp] 85)).alloc (.cells #[(),ι 0,ι 0,ι 0,ι 0,(),()] 50)).heap[w.heap.size+1+1]? =some (.cells #[(),ι 0,ι 0,ι 0,ι 0,(),()] 50 (0,0))):=η (by simpa using aF ((w.alloc (.cells #[ς al h.log.length cl,ι h.sums.a,ι h.sums.b,ι h.sums.c,ι h.sums.d,ς ar h.ready.length cr,ς ad h.done.length cd] 50)).alloc (.cells #[ι 5,ι dd,ι hh,ς ap ps.length cp] 85)) _);clear hv hm hc hk hkm hn hme hms;have qx:Hid (bg h ⟨5,dd,hh,ps⟩=h):=by
  show bg h ⟨5,dd,hh,ps⟩=h;unfold bg;rw [if_neg (fun e=>by cases e),if_neg (fun e=>by cases e),if_pos rfl,if_neg (by rw [show bM h.ready (Ms.deed ⟨5,dd,hh,ps⟩)=false from rd];simp)]
 have qy:Hid (bG h me ⟨5,dd,hh,ps⟩=[]):=by
  show bG h me ⟨5,dd,hh,ps⟩=[];unfold bG;rw [if_neg (fun e=>by cases e),if_neg (fun e=>by cases e)]
 have RD:=η rd;clear rd;go_enter Tryz.func53,Tryz.ntmps53;go_wp2_with fail
 refine(vZ.o _ jq.o).mono ?_;rw [RD.o];rintro e v1 ⟨rfl,fO⟩;(obtain⟨cL,fv1⟩:=fJ fO;have Nr:w.heap.size<v1:=(ω fO.size);have Ns:w.heap.size+1<v1:=(ω fO.size);have Nu:w.heap.size+1+1<v1:=(ω fO.size);have Az:=η fO;clear fO)
 have R6:=aj Gm.o Az.o;obtain⟨p0,p1,p2,p3,p4,p5,p6⟩:=aT R6;have pf:=dA R6;obtain⟨s0,s1,s2,s3,s4,s5,s6,s7⟩:v1.cell? ⟨w.heap.size,0,none⟩=some (ς al h.log.length cl)/\v1.cell? ⟨w.heap.size,1,none⟩=some (ι h.sums.a)/\v1.cell? ⟨w.heap.size,2,none⟩=some (ι h.sums.b)/\v1.cell? ⟨w.heap.size,3,none⟩=some (ι h.sums.c)/\v1.cell? ⟨w.heap.size,4,none⟩=some (ι h.sums.d)/\v1.cell? ⟨w.heap.size,5,none⟩=some (ς ar h.ready.length cr)/\v1.cell? ⟨w.heap.size,6,none⟩=some (ς ad h.done.length cd)/\v1.cell? ⟨w.heap.size+1,1,none⟩=some (ι dd):=by refine⟨?_,?_,?_,?_,?_,?_,?_,?_⟩<;>go_simp
 clear R6;go_wp2;refine bodyPost_ret (v:=.tuple #[.agg #[ς al h.log.length cl,ι h.sums.a,ι h.sums.b,ι h.sums.c,ι h.sums.d,ς ar h.ready.length cr,ς ad h.done.length cd],()]) (by simp [results,Tryz.results53,go_sem,p0,p1,p2,p3,p4,p5,p6]) rfl ?_;rw [qx.o,qy.o];refine⟨_,_,rfl,?_,Sl.nil _ _,?_⟩
 ·exact Hq.o.mono (dM HC.o)
 ·(repeat (with_reducible refine Grow.setCell ?_ (by first|(simp;done)|(simp;omega)|omega) _))
  exact jq.o.trans Az.o
theorem XR {c:CM} {v vm:Value} {h:Hs} {kd dd hh me:Int} {ps:List Pt} (w:World) (hc:Sub c w.cell?) (hv:Of Ty.hs c v h) (hm:Of Ty.ms c vm ⟨kd,dd,hh,ps⟩) (hk:∀x∈h.log,dw x.parts) (hkm:dw ps) (hn:(h.log.length+1)*40<=140737488355328) (hme:I64 me) (n1:¬kd=1) (n4:¬kd=4) (n5:¬kd=5):
  Calls Tryz.prog 53 #[v,ι me,vm] w fun e w'=>∃v1 v2,e=.returned (.tuple #[v1,v2])/\Of Ty.hs (ov c w w') v1 (bg h ⟨kd,dd,hh,ps⟩)/\Sl Ty.ms (ov c w w') v2 (bG h me ⟨kd,dd,hh,ps⟩)/\Grow w w':=by
 obtain⟨al,cl,ar,cr,ad,cd,rfl⟩:=hv.dF;obtain⟨ap,cp,rfl⟩:∃ap cp,vm=.agg #[ι kd,ι dd,ι hh,ς ap ps.length cp]:=hm.fQ;have hms:Sl Ty.pt c (ς ap ps.length cp) ps/\I64 kd/\I64 dd/\I64 hh:=Of.iG hm;have lM:=η hms;have Hq:=η hv;have HC:=η hc;have NR:=η hk;have Yo:=η hkm;have HN:=η hn;have CW:=η hme;have J9:=η (fun(W:World) (hW:Grow w W)=>kS (d:=dd) W (hv.mono (hc.trans hW.sub)) (hms.1.mono (hc.trans hW.sub)) hkm);have vZ:=η (fun(W:World) (hW:Grow w W)=>jf (d:=dd) W (hv.mono (hc.trans hW.sub)));have sS:=η (fun(W:World) (hW:Grow w W)=>kQ (n:=dd) W ((Of.iw hv).2.2.mono (hc.trans hW.sub)));have jq:Hid (Grow w (((w.alloc (.cells #[ς al h.log.length cl,ι h.sums.a,ι h.sums.b,ι h.sums.c,ι h.sums.d,ς ar h.ready.length cr,ς ad h.done.length cd] 50)).alloc (.cells #[ι kd,ι dd,ι hh,ς ap ps.length cp] 85)).alloc (.cells #[(),ι 0,ι 0,ι 0,ι 0,(),()] 50))):=η ((((Grow.refl w).alloc _).alloc _).alloc _);have HR3:Hid ((((w.alloc (.cells #[ς al h.log.length cl,ι h.sums.a,ι h.sums.b,ι h.sums.c,ι h.sums.d,ς ar h.ready.length cr,ς ad h.done.length cd] 50)).alloc (.cells #[ι kd,ι dd,ι hh,ς ap ps.length cp] 85)).alloc (.cells #[(),ι 0,ι 0,ι 0,ι 0,(),()] 50)).heap[w.heap.size]? =some (.cells #[ς al h.log.length cl,ι h.sums.a,ι h.sums.b,ι h.sums.c,ι h.sums.d,ς ar h.ready.length cr,ς ad h.done.length cd] 50 (0,0))):=η (aB (aB (aF _ _) _) _);have xX:Hid ((((w.alloc (.cells #[ς al h.log.length cl,ι h.sums.a,ι h.sums.b,ι h.sums.c,ι h.sums.d,ς ar h.ready.length cr,ς ad h.done.length cd] 50)).alloc (.cells #[ι kd,ι dd,ι hh,ς ap ps.length cp] 85)).alloc (.cells #[(),ι 0,ι 0,ι 0,ι 0,(),()] 50)).heap[w.heap.size+1]? =some (.cells #[ι kd,ι dd,ι hh,ς ap ps.length cp] 85 (0,0))):=η (aB (by simpa using aF (w.alloc (.cells #[ς al h.log.length cl,ι h.sums.a,ι h.sums.b,ι h.sums.c,ι h.sums.d,ς ar h.ready.length cr,ς ad h.done.length cd] 50)) _) _);have Gm:Hid ((((w.alloc (.cells #[ς al h.log.length cl,ι h.sums.a,ι h.sums.b,ι h.sums.c,ι h.sums.d,ς ar h.ready.length cr,ς ad h.done.length cd] 50)).alloc (.cells #[ι kd,ι dd,ι hh,ς ap ps.length cp] 85)).alloc (.cells #[(),ι 0,ι 0,ι 0,ι 0,(),()] 50)).heap[w.heap.size+1+1]? =some (.cells #[(),ι 0,ι 0,ι 0,ι 0,(),()] 50 (0,0))):=η (by simpa using aF ((w.alloc (.cells #[ς al h.log.length cl,ι h.sums.a,ι h.sums.b,ι h.sums.c,ι h.sums.d,ς ar h.ready.length cr,ς ad h.done.length cd] 50)).alloc (.cells #[ι kd,ι dd,ι hh,ς ap ps.length cp] 85)) _);clear hv hm hc hk hkm hn hme hms;have qx:Hid (bg h ⟨kd,dd,hh,ps⟩=h):=by
  show bg h ⟨kd,dd,hh,ps⟩=h;unfold bg;rw [if_neg n1,if_neg n4,if_neg n5]
 have qy:Hid (bG h me ⟨kd,dd,hh,ps⟩=[]):=by
  show bG h me ⟨kd,dd,hh,ps⟩=[];unfold bG;rw [if_neg n1,if_neg n4]
 have b1:(kd==1)=false:=by simpa using n1
 have b4:(kd==4)=false:=by simpa using n4
 have b5:(kd==5)=false:=by simpa using n5
 clear n1 n4 n5;go_enter Tryz.func53,Tryz.ntmps53;go_wp2;refine bodyPost_ret (v:=.tuple #[.agg #[ς al h.log.length cl,ι h.sums.a,ι h.sums.b,ι h.sums.c,ι h.sums.d,ς ar h.ready.length cr,ς ad h.done.length cd],()]) (by simp [results,Tryz.results53,go_sem]) rfl ?_;rw [qx.o,qy.o];refine⟨_,_,rfl,?_,Sl.nil _ _,?_⟩
 ·exact Hq.o.mono (dM HC.o)
 ·(repeat (with_reducible refine Grow.setCell ?_ (by first|(simp;done)|(simp;omega)|omega) _))
  exact(((Grow.refl w).alloc _).alloc _).alloc _
theorem Nv {c:CM} {v vm:Value} {h:Hs} {m:Ms} {me:Int} (w:World) (hc:Sub c w.cell?) (hv:Of Ty.hs c v h) (hm:Of Ty.ms c vm m) (hk:∀x∈h.log,dw x.parts) (hkm:dw m.parts) (hn:(h.log.length+1)*40<=140737488355328) (hme:I64 me) (hmd:Made h):
  Calls Tryz.prog 53 #[v,ι me,vm] w fun e w'=>∃v1 v2,e=.returned (.tuple #[v1,v2])/\Of Ty.hs (ov c w w') v1 (bg h m)/\Sl Ty.ms (ov c w w') v2 (bG h me m)/\Grow w w':=by
 obtain⟨kd,dd,hh,ps⟩:=m;by_cases h1:kd=1
 ·subst h1
  by_cases e10:dU h dd ps=10
  ·exact Nq w hc hv hm hk hkm hn hme e10
  by_cases e0:dU h dd ps=0
  ·cases rd:bM h.ready dd with
   |true=>exact Qa w hc hv hm hk hkm hn hme e0 rd
   |false=>exact Qb w hc hv hm hk hkm hn hme e0 rd
  ·exact Qc w hc hv hm hk hkm hn hme e10 e0
 by_cases h4:kd=4
 ·subst h4
  cases rd:bM h.ready dd with
  |true=>exact Qd w hc hv hm hk hkm hn hme rd (by rw [(Gw hmd rd).2];simp)
  |false=>
   by_cases hin:dd∈h.done
   ·exact Qe w hc hv hm hk hkm hn hme rd hin
   ·exact Qg w hc hv hm hk hkm hn hme rd hin
 by_cases h5:kd=5
 ·subst h5
  cases rd:bM h.ready dd with
  |true=>exact Qh w hc hv hm hk hkm hn hme rd
  |false=>exact Qi w hc hv hm hk hkm hn hme rd
 ·exact XR w hc hv hm hk hkm hn hme h1 h4 h5
end Go.Proofs.YtocnmkefmgmkbaaGreat
