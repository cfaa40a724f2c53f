/- Parts of proofs, joined: Z4. No condition beside those that each theorem names. -/
import Derived.Test.YtocnmkefmgmkbaaGreatJE1b
import Derived.Test.YtocnmkefmgmkbaaGreatJE6a
import Derived.Test.YtocnmkefmgmkbaaGreatJE4b
set_option maxRecDepth 100000
set_option maxHeartbeats 40000000
namespace Go.Proofs.YtocnmkefmgmkbaaGreat
open Go.RowKit
def takeB (l:List (List UInt8)) (n:Int):List (List UInt8)×Ms×Int:=
 if 0<=n/\n<l.length then(l.eraseIdx n.toNat,readB (l.getD n.toNat [])) else(l,ms0,6)
theorem sC {w W1 w' w'':World} {X X':List (Option Nat)} (hW:w.heap.size<=W1.heap.size) (h:∀k,W1.heap.size<=k->k<w'.heap.size->some k∉X->w''.heap[k]? =w'.heap[k]?/\some k∉X'):Sub (fr W1 w' X) (fr w w'' X'):=fun a v e=>by
 unfold fr at e;split at e
 ·cases e
 ·rename_i hn
  have N:¬a.block<W1.heap.size:=fun Z=>hn (.inl Z);have Y:some a.block∉X:=fun Z=>hn (.inr Z);obtain⟨h3,h4⟩:=h a.block V (eH w' a e) Y;rw [jh V h4,World.cell?_of_block h3];exact e
theorem bK.erase {α:Type} {T:Ty α} {c c':CM} {w':World} {base e g cap i:Nat} {l:List α} {css:List (List Value)} (Y:css.length=l.length) (h3:∀(i:Nat) (cs:List Value) (x:α),css[i]? =some cs->l[i]? =some x->T.R c cs x) (hs:Sub c c') (hi:i<l.length)
  (hnew:w'.ownsRow base e T.size (U (some ⟨g,0,none⟩) (l.length - 1) cap) (l.length - 1) (css.flatten.take (i*T.size)++css.flatten.drop ((i+1)*T.size))):bK T c' w' base e (U (some ⟨g,0,none⟩) (l.length - 1) cap) (l.eraseIdx i):=by
 have hcl:=nN Y h3;refine⟨css.eraseIdx i,?_,?_,?_⟩
 ·have e:(css.eraseIdx i).flatten=css.flatten.take (i*T.size)++css.flatten.drop ((i+1)*T.size):=by
   rw [ng css i hcl,qI css (i+1) hcl,List.eraseIdx_eq_take_drop_succ,List.flatten_append]
  rw [e,List.length_eraseIdx_of_lt hi];exact hnew
 ·rw [List.length_eraseIdx_of_lt hi,List.length_eraseIdx_of_lt V,Y]
 ·intro j cs x a e
  rw [List.getElem?_eraseIdx] at a e;by_cases hj:j<i
  ·rw [bC hj] at a e
   exact T.mono hs (h3 j cs x a e)
  ·rw [aV hj] at a e
   exact T.mono hs (h3 (j+1) cs x a e)
theorem Vw {v:Value} {l:List (List UInt8)} {n:Int} (w:World) (hv:yS w.cell? v l) (hm:l.length*24<=140737488355328) (hp:∀b∈l,b.length<=140737488355328):
  Calls Tryz.prog 43 #[v,J n] w fun e w'=>∃v' vm,e=.returned (.tuple #[v',vm,J (takeB l n).2.2])/\bK Ty.bs (fr w w' [v'.ownBlock]) w' w.heap.size 97 v' (takeB l n).1/\Of Ty.ms (ov (fun _=>none) w w') vm (takeB l n).2.1/\aK w w':=by
 have L8:=I (fun(W:World) (hW:aK w W)=>J5 W (hv.mono hW.sub) hm hp);obtain⟨a,cap,rfl,N,Y,-,hel⟩:=hv;unfold maxLen at Y;clear hm hp;by_cases hin:0<=n/\n<l.length
 ·obtain⟨i,rfl⟩:∃i:Nat,n=i:=⟨n.toNat,V⟩
  have hi:i<l.length:=by omega
  obtain⟨b,o,vp,rfl,c0,hP⟩:=yS.at_ hel i hi;obtain⟨aq,cq,rfl,-⟩:=id hP;have hgd:l.getD i []=l[i]:=by rw [List.getD_eq_getElem?_getD,dM hi];rfl
  have HE:=I (show takeB l i=(l.eraseIdx i,readB l[i]) by unfold takeB;rw [bC hin,Int.toNat_natCast,hgd]);have Jj:=I (fun(W:World) (hW:aK w W)=>bL W (hP.mono hW.sub));clear hel hP hgd hin;have zb:=eH w _ c0;simp only at zb;generalize l[i].length=nb at*;generalize readB l[i]=rd at*;obtain⟨x,er⟩:=rd;go_enter Tryz.func43,Tryz.ntmps43;go_wp2_with fail
  refine(Jj.o _ ((aG _).alloc _)).mono ?_;rintro e w1 ⟨v1,rfl,Z,dZ⟩;obtain⟨ap,cp,rfl⟩:=Z.ny;have R5:=I (aF (bn w (.cells #[J 0,J 0,J 0,()] 85)) dZ);have G1:=I (((aG w).alloc (.cells #[J 0,J 0,J 0,()] 85)).trans dZ);have HX:=I Z;clear Z dZ c0;go_wp2_with fail
  obtain⟨wq,hwq⟩:=χ (w1.alloc (.cells #[J x.aX,J x.aJ,J x.aU,U ap x.aH.length cp] 85));have R7:Hid (wq.heap[w1.heap.size]? =some (.cells #[J x.aX,J x.aJ,J x.aU,U ap x.aH.length cp] 85 (0,0))):=I (by rw [hwq];exact bn _ _);have R5Q:Hid (wq.heap[w.heap.size]? =some (.cells #[J 0,J 0,J 0,()] 85 (0,0))):=I (by rw [hwq];exact bQ R5.o _);have G1Q:Hid (aK w1 wq):=I (by rw [hwq];exact(aG _).alloc _);have HZ1:Hid (w.heap.size<w1):=I (γ R5.o);rw [<-hwq];clear hwq R5;obtain⟨B7,Fz⟩:=χ w1.heap.size;rw [<-Fz] at R7 ⊢;have Ai:=I Fz;clear Fz;have hwr:IntKind.i64.wrap ((i:Int)+1)=(i:Int)+1:=IntWalk.i64_in _ V;have HS:Hid (∀W:World,W.heap[B7]? =some (.cells #[J x.aX,J x.aJ,J x.aU,U ap x.aH.length cp] 85 (0,0))->W.cell? ⟨B7,0,none⟩=some (J x.aX)/\W.cell? ⟨B7,1,none⟩=some (J x.aJ)/\W.cell? ⟨B7,2,none⟩=some (J x.aU)/\W.cell? ⟨B7,3,none⟩=some (U ap x.aH.length cp)):=fun W hW=>aT hW;refine dH (fun w'=>w'.cell? ⟨B7,0,none⟩=some (J x.aX)/\w'.cell? ⟨B7,1,none⟩=some (J x.aJ)/\w'.cell? ⟨B7,2,none⟩=some (J x.aU)/\w'.cell? ⟨B7,3,none⟩=some (U ap x.aH.length cp)) 10 κ ?_;obtain⟨wd,hWd⟩:=χ wq.drew;rw [<-hWd];have GD:aK wq wd:=by rw [hWd];exact(aG _).drew
  have zD:wq.heap.size=wd.heap.size:=by rw [hWd];rfl
  clear hWd zD;refine qJ [0,2,3,4,6,7] 13 κ (fun _ _ _ _ _ h=>h) (HS.o _ (aF R7.o GD)) ?_;repeat (refine jY ?_;try simp only [bT])
  refine qK ?_;refine bO 1 κ rfl ?_;intro K M;try simp only [dD]
  go_simp;go_at_call 61
  refine(L8.o wd (G1.o.trans (G1Q.o.trans GD))).mono ?_;rintro e2 w2 ⟨v2,rfl,bU,gB⟩;have yj:=I bU.lt;have jq:=I gB;have A10:=I (aF (aF R7.o GD) gB);have A21:=I (aF (aF R5Q.o GD) gB);obtain⟨css,k1,k2,k3⟩:=id bU;obtain⟨-,⟨-,hn⟩|⟨g,uz,cur,rfl,-⟩⟩:=id k1
  ·omega
  have K1:=I k1;have K2:=I k2;have K3:=I k3;have HZQ:Hid (B7<wd.heap.size):=I (by have:=(Array.getElem?_eq_some_iff.1 (aF R7.o GD)).1;exact this);have gC:Hid (wd.heap.size<=g):=I ((yj.o g rfl).1);clear bU gB k1 k2 k3;refine ψ M (fun _=>HS.o _ A10.o) ?_;try simp only [bT]
  refine bO 5 κ rfl ?_;intro K M;try simp only [dD]
  go_simp;go_at_call 81
  refine(Wq (i:=i) K1.o hi (fun u hu=>?one)).mono ?_
  case one=>
   obtain⟨cs,hcs,huc⟩:=List.mem_flatten.1 hu;obtain⟨j,hj,rfl⟩:=List.mem_iff_getElem.1 hcs;exact lW Ty.byte _ _ _ (K3.o j css[j] l[j] σ (by have:=K2.o;simp)) u huc
  rintro e3 w3 ⟨rfl,mZ,o9⟩;have n_:=I mZ;have uF:=I o9;have A0g:=I (bJ A10.o o9 (by have:=HZQ.o;have:=gC.o;intro e9;have:=bI e9;omega));have A22:=I (bJ A21.o o9 (by have:=HZQ.o;have:=gC.o;have:=HZ1.o;have:=Ai.o;intro e9;have:=bI e9;omega));clear mZ o9;refine ψ M (fun _=>HS.o _ A0g.o) ?_;try simp only [bT]
  refine bO 8 κ rfl ?_;intro K M;try simp only [dD]
  go_simp;refine ψ M (fun _=>HS.o _ A0g.o) ?_;try simp only [bT]
  refine bO 9 κ rfl ?_;intro K M;refine aY rfl ?_;try simp only [dD]
  refine b_ (.tmp 5) (.tmp 34) rfl rfl rfl A22.o jo rfl rfl ?_;intro w4 r4 g4;refine ψ M (fun _=>HS.o _ (bJ A0g.o g4 (by have:=HZ1.o;have:=Ai.o;intro e9;have:=bI e9;omega))) ?_;try simp only [bT]
  refine bO 10 κ rfl ?_;intro K M;try simp only [dD]
  go_simp;refine ψ M (fun h=>absurd rfl h) ?_;try simp only [bT]
  refine bW κ ?_;obtain⟨p0,p1,p2,p3⟩:=aT r4;go_wp2;refine dw (v:=.tuple #[U (some ⟨g,0,none⟩) (l.length - 1) uz,.agg #[J x.aX,J x.aJ,J x.aU,U ap x.aH.length cp],J er]) (by simp [results,Tryz.results43,go_sem,p0,p1,p2,p3]) rfl ?_;rw [HE.o];have hz:=HZ1.o;have hzq:=HZQ.o;have hgg:=gC.o;have jQ:=Ai.o;have rH:=jq.o.size;have EK:aK w w2:=G1.o.trans (G1Q.o.trans (GD.trans jq.o));have H8:aK w w3:=EK.grown uF.o (fun q O=>by obtain rfl:=bI O;omega);have NN:aK w w4:=H8.grown g4 (fun q O=>by obtain rfl:=bI O;omega);refine⟨_,_,rfl,?_,?_,NN⟩
  ·refine((bK.erase (T:=Ty.bs) K2.o K3.o (c':=fr w w4 [some g]) ?_ hi n_.o).kept g4 (.inr (by simp [Value.ownBlock];omega))).base (b':=w.heap.size) V
   refine sC V fun k hk KF L9=>?_;have hkg:k≠g:=by simpa [Value.ownBlock] using L9
   refine⟨?_,by simpa using hkg⟩;rw [g4.block k (Nat.lt_of_lt_of_le KF uF.o.size) iP,uF.o.block k KF (fun e9=>hkg (bI e9))]
  ·refine HX.o.mono fun a9 u9 e9=>?_
   unfold ov at e9 ⊢;split at e9
   ·cases e9
   ·rename_i H5
    have YZ:=eH w1 a9 e9;have AK:w.heap.size+1<=a9.block:=by simp at H5;omega
    rw [aV V];have e8:=jq.o.sub _ _ (GD.sub _ _ (G1Q.o.sub _ _ e9));rw [fM g4 (τ uF.o.size) V,fM uF.o V V];exact e8
 ·have HE:=I (show takeB l n=(l,ms0,6) by unfold takeB;rw [aV hin])
  have hcase:n<0∨(0<=n/\(l.length:Int)<=n):=by omega
  clear hin hel;rcases hcase with h0|⟨h0,h9⟩
  all_goals
   go_enter Tryz.func43,Tryz.ntmps43;go_wp2_with fail
   refine(L8.o _ ((aG _).alloc _)).mono ?_;rintro e w1 ⟨v1,rfl,bU,hb⟩;obtain⟨av,cv,rfl⟩:=bU.form;have yj:=I bU.lt;have dX:=I bU;have R5:=I (aF (bn w (.cells #[J 0,J 0,J 0,()] 85)) hb);have HB:=I (((aG w).alloc (.cells #[J 0,J 0,J 0,()] 85)).trans hb);clear bU hb;go_wp2_with (first|(refine aQ rfl (.tmp 5) (.tmp 19) rfl rfl rfl R5.o jo rfl rfl ?_))
   intro w4 r4 g4;obtain⟨p0,p1,p2,p3⟩:=aT r4;go_wp2;refine dw (v:=.tuple #[U av l.length cv,.agg #[J 0,J 0,J 0,()],J 6]) (by simp [results,Tryz.results43,go_sem,p0,p1,p2,p3]) rfl ?_;rw [HE.o];refine⟨_,_,rfl,((dX.o.mono ?_).kept g4 ?_).base (b':=w.heap.size) σ,oI _,HB.o.grown g4 (fun q O=>by obtain rfl:=bI O;exact Nat.le_refl _)⟩
   ·refine sC σ fun k hk KF L9=>⟨g4.block k KF (fun e9=>by have:=bI e9;simp at hk;omega),L9⟩
   ·cases e9:(Value.slice av l.length cv).ownBlock with
    |none=>exact .inl rfl
    |some q=>exact .inr (by have:=(yj.o q e9).1;simp at this;intro e8;have:=bI e8;omega)
end Go.Proofs.YtocnmkefmgmkbaaGreat
