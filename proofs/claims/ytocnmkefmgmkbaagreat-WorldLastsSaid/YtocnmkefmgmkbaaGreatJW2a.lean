/- Parts of proofs, joined: Z4. No condition beside those that each theorem names. -/
import Derived.Test.YtocnmkefmgmkbaaGreatJW1b
import Derived.Test.YtocnmkefmgmkbaaGreatJW6a
import Derived.Test.YtocnmkefmgmkbaaGreatJW4b
set_option maxRecDepth 100000
set_option maxHeartbeats 40000000
namespace Go.Proofs.YtocnmkefmgmkbaaGreat
open Go.RowKit
def takeB (l:List (List UInt8)) (n:Int):List (List UInt8)×Ms×Int:=
 if 0<=n/\n<l.length then(l.eraseIdx n.toNat,readB (l.getD n.toNat [])) else(l,ms0,6)
theorem V4 {w W1 w' w'':World} {X X':List (Option Nat)} (hW:w.heap.size<=W1.heap.size) (h:∀k,W1.heap.size<=k->k<w'.heap.size->some k∉X->w''.heap[k]? =w'.heap[k]?/\some k∉X'):Sub (fr W1 w' X) (fr w w'' X'):=fun a v e=>by
 unfold fr at e;split at e
 ·cases e
 ·rename_i hn
  have h1:¬a.block<W1.heap.size:=fun hx=>hn (.inl hx);have h2:some a.block∉X:=fun hx=>hn (.inr hx);obtain⟨h3,h4⟩:=h a.block δ (World.block_lt_of_cell? w' a e) h2;rw [gy δ h4,World.cell?_of_block h3];exact e
theorem aI.erase {α:Type} {T:Ty α} {c c':CM} {w':World} {base e g cap i:Nat} {l:List α} {css:List (List Value)} (h2:css.length=l.length) (h3:∀(i:Nat) (cs:List Value) (x:α),css[i]? =some cs->l[i]? =some x->T.R c cs x) (hs:Sub c c') (hi:i<l.length)
  (hnew:w'.ownsRow base e T.size (ς (some ⟨g,0,none⟩) (l.length - 1) cap) (l.length - 1) (css.flatten.take (i*T.size)++css.flatten.drop ((i+1)*T.size))):aI T c' w' base e (ς (some ⟨g,0,none⟩) (l.length - 1) cap) (l.eraseIdx i):=by
 have hcl:=jM h2 h3;refine⟨css.eraseIdx i,?_,?_,?_⟩
 ·have e:(css.eraseIdx i).flatten=css.flatten.take (i*T.size)++css.flatten.drop ((i+1)*T.size):=by
   rw [jD css i hcl,lS css (i+1) hcl,List.eraseIdx_eq_take_drop_succ,List.flatten_append]
  rw [e,List.length_eraseIdx_of_lt hi];exact hnew
 ·rw [List.length_eraseIdx_of_lt hi,List.length_eraseIdx_of_lt δ,h2]
 ·intro j cs x a e
  rw [List.getElem?_eraseIdx] at a e;by_cases hj:j<i
  ·rw [if_pos hj] at a e
   exact T.mono hs (h3 j cs x a e)
  ·rw [if_neg hj] at a e
   exact T.mono hs (h3 (j+1) cs x a e)
theorem LV {v:Value} {l:List (List UInt8)} {n:Int} (w:World) (hv:uH w.cell? v l) (hm:l.length*24<=140737488355328) (hp:∀b∈l,b.length<=140737488355328):
  Calls Tryz.prog 43 #[v,ι n] w fun e w'=>∃v' vm,e=.returned (.tuple #[v',vm,ι (takeB l n).2.2])/\aI Ty.bs (fr w w' [v'.ownBlock]) w' w.heap.size 97 v' (takeB l n).1/\Of Ty.ms (ov (fun _=>none) w w') vm (takeB l n).2.1/\Grow w w':=by
 have FY:=η (fun(W:World) (hW:Grow w W)=>CV W (hv.mono hW.sub) hm hp);obtain⟨a,cap,rfl,h1,h2,-,hel⟩:=hv;unfold maxLen at h2;clear hm hp;by_cases hin:0<=n/\n<l.length
 ·obtain⟨i,rfl⟩:∃i:Nat,n=i:=⟨n.toNat,δ⟩
  have hi:i<l.length:=by omega
  obtain⟨b,o,vp,rfl,c0,hP⟩:=uH.at_ hel i hi;obtain⟨aq,cq,rfl,-⟩:=id hP;have hgd:l.getD i []=l[i]:=by rw [List.getD_eq_getElem?_getD,List.getElem?_eq_getElem hi];rfl
  have HE:=η (show takeB l i=(l.eraseIdx i,readB l[i]) by unfold takeB;rw [if_pos hin,Int.toNat_natCast,hgd]);have vZ:=η (fun(W:World) (hW:Grow w W)=>TU W (hP.mono hW.sub));have lI:Hid ((l.eraseIdx i).length=l.length - 1):=η (List.length_eraseIdx_of_lt hi);clear hel hP hgd hin;have zb:=World.block_lt_of_cell? w _ c0;simp only at zb;generalize l[i].length=nb at*;generalize readB l[i]=rd at*;obtain⟨x,er⟩:=rd;go_enter Tryz.func43,Tryz.ntmps43;go_wp2_with fail
  refine(vZ.o _ ((Grow.refl _).alloc _)).mono ?_;rintro e w1 ⟨v1,rfl,hx,hb1⟩;obtain⟨ap,cp,rfl⟩:=hx.fQ;have R5:=η (aj (aF w (.cells #[ι 0,ι 0,ι 0,()] 85)) hb1);have G1:=η (((Grow.refl w).alloc (.cells #[ι 0,ι 0,ι 0,()] 85)).trans hb1);have HX:=η hx;clear hx hb1 c0;go_wp2_with fail
  obtain⟨wq,hwq⟩:∃y:World,y=w1.alloc (.cells #[ι x.kind,ι x.deed,ι x.house,ς ap x.parts.length cp] 85):=⟨_,rfl⟩;have R7:Hid (wq.heap[w1.heap.size]? =some (.cells #[ι x.kind,ι x.deed,ι x.house,ς ap x.parts.length cp] 85 (0,0))):=η (by rw [hwq];exact aF _ _);have R5Q:Hid (wq.heap[w.heap.size]? =some (.cells #[ι 0,ι 0,ι 0,()] 85 (0,0))):=η (by rw [hwq];exact aB R5.o _);have J1:Hid (Grow w1 wq):=η (by rw [hwq];exact(Grow.refl _).alloc _);have HZ1:Hid (w.heap.size<w1):=η (γ R5.o);rw [<-hwq];clear hwq R5;obtain⟨B7,yL⟩:∃B,B=w1.heap.size:=⟨_,rfl⟩;rw [<-yL] at R7 ⊢;have wZ:=η yL;clear yL;have hwr:IntKind.i64.wrap ((i:Int)+1)=(i:Int)+1:=IntWalk.i64_in _ δ;have HS:Hid (∀W:World,W.heap[B7]? =some (.cells #[ι x.kind,ι x.deed,ι x.house,ς ap x.parts.length cp] 85 (0,0))->W.cell? ⟨B7,0,none⟩=some (ι x.kind)/\W.cell? ⟨B7,1,none⟩=some (ι x.deed)/\W.cell? ⟨B7,2,none⟩=some (ι x.house)/\W.cell? ⟨B7,3,none⟩=some (ς ap x.parts.length cp)):=fun W hW=>cells4 hW;refine bf (fun w'=>w'.cell? ⟨B7,0,none⟩=some (ι x.kind)/\w'.cell? ⟨B7,1,none⟩=some (ι x.deed)/\w'.cell? ⟨B7,2,none⟩=some (ι x.house)/\w'.cell? ⟨B7,3,none⟩=some (ς ap x.parts.length cp)) 10 κ ?_;obtain⟨wd,hWd⟩:∃x:World,x=wq.drew:=⟨_,rfl⟩;rw [<-hWd];have GD:Grow wq wd:=by rw [hWd];exact(Grow.refl _).drew
  have zD:wq.heap.size=wd.heap.size:=by rw [hWd];rfl
  have ZD:=η zD;clear hWd zD;refine ni [0,2,3,4,6,7] 13 κ (fun _ _ _ _ _ h=>h) (HS.o _ (aj R7.o GD)) ?_;repeat (refine gQ ?_;try simp only [aK])
  refine ny ?_;refine bO 1 κ rfl ?_;intro K HK;try simp only [aV]
  go_simp;go_at_call 61
  refine(FY.o wd (G1.o.trans (J1.o.trans GD))).mono ?_;rintro e2 w2 ⟨v2,rfl,hown,hb2⟩;have S_:=η hown.lt;have HB2:=η hb2;have t8:=η (aj (aj R7.o GD) hb2);have J2:=η (aj (aj R5Q.o GD) hb2);obtain⟨css,k1,k2,k3⟩:=id hown;obtain⟨-,⟨-,hn⟩|⟨g,cap2,cur,rfl,-⟩⟩:=id k1
  ·omega
  have K1:=η k1;have K2:=η k2;have K3:=η k3;have KB:Hid (B7<wd.heap.size):=η (by have:=(Array.getElem?_eq_some_iff.1 (aj R7.o GD)).1;exact this);have KK:Hid (wd.heap.size<=g):=η ((S_.o g rfl).1);clear hown hb2 k1 k2 k3;refine HK.o _ _ ⟨fun _=>HS.o _ t8.o,?_⟩;clear HK K;try simp only [aK]
  refine bO 5 κ rfl ?_;intro K HK;try simp only [aV]
  go_simp;go_at_call 81
  refine(Oc (i:=i) K1.o hi (fun u hu=>?one)).mono ?_
  case one=>
   obtain⟨cs,hcs,huc⟩:=List.mem_flatten.1 hu;obtain⟨j,hj,rfl⟩:=List.mem_iff_getElem.1 hcs;exact iZ Ty.byte _ _ _ (K3.o j css[j] l[j] σ (by have:=K2.o;simp)) u huc
  rintro e3 w3 ⟨rfl,ho3,hg3⟩;have nC:=η ho3;have oq:=η hg3;have fY:=η (aH t8.o hg3 (by have:=KB.o;have:=KK.o;intro e9;have:=Option.some.inj e9;omega));have KM:=η (aH J2.o hg3 (by have:=KB.o;have:=KK.o;have:=HZ1.o;have:=wZ.o;intro e9;have:=Option.some.inj e9;omega));clear ho3 hg3;refine HK.o _ _ ⟨fun _=>HS.o _ fY.o,?_⟩;clear HK K;try simp only [aK]
  refine bO 8 κ rfl ?_;intro K HK;try simp only [aV]
  go_simp;refine HK.o _ _ ⟨fun _=>HS.o _ fY.o,?_⟩;clear HK K;try simp only [aK]
  refine bO 9 κ rfl ?_;intro K HK;refine aC rfl ?_;try simp only [aV]
  refine wp_store_row (.tmp 5) (.tmp 34) rfl rfl rfl KM.o fD rfl rfl ?_;intro w4 r4 g4;refine HK.o _ _ ⟨fun _=>HS.o _ (aH fY.o g4 (by have:=HZ1.o;have:=wZ.o;intro e9;have:=Option.some.inj e9;omega)),?_⟩;clear HK K;try simp only [aK]
  refine bO 10 κ rfl ?_;intro K HK;try simp only [aV]
  go_simp;refine HK.o _ _ ⟨fun h=>absurd rfl h,?_⟩;clear HK K;try simp only [aK]
  refine aO κ ?_;obtain⟨p0,p1,p2,p3⟩:=cells4 r4;go_wp2;refine bodyPost_ret (v:=.tuple #[ς (some ⟨g,0,none⟩) (l.length - 1) cap2,.agg #[ι x.kind,ι x.deed,ι x.house,ς ap x.parts.length cp],ι er]) (by simp [results,Tryz.results43,go_sem,p0,p1,p2,p3]) rfl ?_;rw [HE.o];have hz:=HZ1.o;have hzq:=KB.o;have hgg:=KK.o;have hb7:=wZ.o;have hw2:=HB2.o.size;have xY:Grow w w2:=G1.o.trans (J1.o.trans (GD.trans HB2.o));have Ah:Grow w w3:=xY.grown oq.o (fun q hq=>by obtain rfl:=Option.some.inj hq;omega);have bL:Grow w w4:=Ah.grown g4 (fun q hq=>by obtain rfl:=Option.some.inj hq;omega);refine⟨_,_,rfl,?_,?_,bL⟩
  ·refine((aI.erase (T:=Ty.bs) K2.o K3.o (c':=fr w w4 [some g]) ?_ hi nC.o).kept g4 (.inr (by simp [Value.ownBlock];omega))).base (b':=w.heap.size) δ
   refine V4 δ fun k hk hk2 hk3=>?_;have hkg:k≠g:=by simpa [Value.ownBlock] using hk3
   refine⟨?_,by simpa using hkg⟩;rw [g4.block k (Nat.lt_of_lt_of_le hk2 oq.o.size) (fun e9=>by have:=Option.some.inj e9;omega),oq.o.block k hk2 (fun e9=>hkg (Option.some.inj e9))]
  ·refine HX.o.mono fun a9 u9 e9=>?_
   unfold ov at e9 ⊢;split at e9
   ·cases e9
   ·rename_i Zc
    have hl9:=World.block_lt_of_cell? w1 a9 e9;have V6:w.heap.size+1<=a9.block:=by simp at Zc;omega
    rw [if_neg δ];have e8:=HB2.o.sub _ _ (GD.sub _ _ (J1.o.sub _ _ e9));rw [dh g4 (τ oq.o.size) δ,dh oq.o δ δ];exact e8
 ·have HE:=η (show takeB l n=(l,ms0,6) by unfold takeB;rw [if_neg hin])
  have hcase:n<0∨(0<=n/\(l.length:Int)<=n):=by omega
  clear hin hel;rcases hcase with h0|⟨h0,h9⟩
  all_goals
   go_enter Tryz.func43,Tryz.ntmps43;go_wp2_with fail
   refine(FY.o _ ((Grow.refl _).alloc _)).mono ?_;rintro e w1 ⟨v1,rfl,hown,hb⟩;obtain⟨av,cv,rfl⟩:=hown.form;have S_:=η hown.lt;have HOWN:=η hown;have R5:=η (aj (aF w (.cells #[ι 0,ι 0,ι 0,()] 85)) hb);have HB:=η (((Grow.refl w).alloc (.cells #[ι 0,ι 0,ι 0,()] 85)).trans hb);have DM:Hid (w.heap.size+1<=w1.heap.size):=η (by have:=hb.size;simp at this;omega);clear hown hb;go_wp2_with (first|(refine wpList_store_row rfl (.tmp 5) (.tmp 19) rfl rfl rfl R5.o fD rfl rfl ?_))
   intro w4 r4 g4;obtain⟨p0,p1,p2,p3⟩:=cells4 r4;go_wp2;refine bodyPost_ret (v:=.tuple #[ς av l.length cv,.agg #[ι 0,ι 0,ι 0,()],ι 6]) (by simp [results,Tryz.results43,go_sem,p0,p1,p2,p3]) rfl ?_;rw [HE.o];refine⟨_,_,rfl,((HOWN.o.mono ?_).kept g4 ?_).base (b':=w.heap.size) σ,j_ _,HB.o.grown g4 (fun q hq=>by obtain rfl:=Option.some.inj hq;exact Nat.le_refl _)⟩
   ·refine V4 σ fun k hk hk2 hk3=>⟨g4.block k hk2 (fun e9=>by have:=Option.some.inj e9;simp at hk;omega),hk3⟩
   ·cases e9:(Value.slice av l.length cv).ownBlock with
    |none=>exact .inl rfl
    |some q=>exact .inr (by have:=(S_.o q e9).1;simp at this;intro e8;have:=Option.some.inj e8;omega)
end Go.Proofs.YtocnmkefmgmkbaaGreat
