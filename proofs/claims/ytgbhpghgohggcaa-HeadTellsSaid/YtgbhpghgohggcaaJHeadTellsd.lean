/- The parts that HeadTells is proved of, joined: U11n, G5, G6, G7, G8, G9, G10, G11, C4, U20, U28, U29, U12, U13, U15, U16. No condition beside those that each theorem names. -/
import Derived.Lib.SlicesCompact
import Derived.Shelf.Slices.In.SortNone
import Derived.Test.YtgbhpghgohggcaaJHeadTellsc
namespace Go.Proofs.Ytgbhpghgohggcaa
open Go.RowKit
theorem fr_back {w W W':World} {X:List (Option Nat)} (hg:Grow W W') (hs:w.heap.size ≤ W.heap.size) (hX:∀ k,W.heap.size ≤ k→some k ∉ X):Sub (ov (fr w W X) W W') (fr w W' X):=fun a v e=>by
 unfold ov at e
 split at e
 ·exact fr_grow hg a v e
 ·rw [fr_new (by omega) (hX _ (by omega))];exact e
theorem fr_past {w w9 w7:World} (h7:w9.grownBy w7 (some w.heap.size)):Sub (fr w w9 [some w.heap.size]) (ov (fun _=>none) w w7):=fun a v e=>by
 unfold fr at e
 split at e
 ·cases e
 ·rename_i hn
  have h1:¬ a.block < w.heap.size:=fun hx=>hn (.inl hx)
  have h2:a.block ≠ w.heap.size:=fun hx=>hn (.inr (by rw [hx];simp))
  rw [ov_new (by omega)]
  exact cell_past e h7 h2
set_option maxRecDepth 100000 in
set_option maxHeartbeats 4000000 in
theorem ref_newN {n:Nat} (w:World) (hn:1 ≤ n∧n ≤ 3) :
  Calls Try.prog 137 #[.int .i64 n] w fun e w'=>∃ v',e = .returned (.tuple #[v',.int .i64 0])∧Of Ty.wd (ov (fun _=>none) w w') v' (newA n)∧Grow w w':=by
 obtain ⟨cs,hmk,hms⟩:=make_houses hn
 have HMS:=Lib.hid hms
 have hn1:¬ (n:Int) < 1:=by omega
 have hn3:¬ (3:Int) < (n:Int):=by omega
 clear hms
 obtain ⟨wz,hwz⟩:∃ y:World,y = w.alloc (.cells #[.slice none 0 0,.int .i64 0,.int .i64 0,.slice none 0 0,.slice none 0 0,.slice none 0 0] 93):=⟨_,rfl⟩
 have R2:Hid (wz.heap[w.heap.size]? = some (.cells #[.slice none 0 0,.int .i64 0,.int .i64 0,.slice none 0 0,.slice none 0 0,.slice none 0 0] 93 (0,0))):=Lib.hid (by rw [hwz];exact row_new _ _)
 have G1:Hid (Grow w wz):=Lib.hid (by rw [hwz];exact (Grow.refl w).alloc _)
 have HZ:Hid (wz.heap.size = w.heap.size + 1):=Lib.hid (by rw [hwz];simp)
 go_enter Try.func137,Try.ntmps137
 go_upto_region 3 with fail
 rw [← hwz]
 clear hwz
 have HTRU:Hid (∀ W,Grow wz W→True):=fun _ _=>trivial
 refine but_start (fun w'=>True) 7 (by kernel_rfl) ?_
 obtain ⟨wd,hWd⟩:∃ x:World,x = wz.drew:=⟨_,rfl⟩
 rw [← hWd]
 have GD:Grow wz wd:=by rw [hWd];exact (Grow.refl _).drew
 have zD:wz.heap.size = wd.heap.size:=by rw [hWd];rfl
 have ZD:=Lib.hid zD
 clear hWd zD
 refine bLm [0] 10 (by kernel_rfl) (fun _ _ _ _ _ h=>h) (HTRU.out _ GD) ?_
 repeat (refine tNm (v:=?_) rfl (by rfl) ?_ ?_;rotate_left;(· (intro w' hSw;(try dsimp only at hSw);go_simp <;> with_reducible rfl));try simp only [Act.put,lzA,lzC,lzD,lzE,lzF])
 refine tEm ?_
 refine bLm [3] 10 (by kernel_rfl) (fun _ _ _ _ _ h=>h) (HTRU.out _ GD) ?_
 repeat (refine tNm (v:=?_) rfl (by rfl) ?_ ?_;rotate_left;(· (intro w' hSw;(try dsimp only at hSw);go_simp <;> with_reducible rfl));try simp only [Act.put,lzA,lzB,lzC,lzD,lzE,lzF])
 refine tEm ?_
 refine bP 1 4 (by kernel_rfl) rfl rfl ?_ ?_
 ·intro K HK
  try simp only [lzA,lzB,lzC]
  go_simp
  obtain ⟨y1,hy1⟩:∃ y:World,y = wd.alloc (.cells #[.int .i64 4,.int .i64 0,.slice none 0 0] 48):=⟨_,rfl⟩
  obtain ⟨By1,hBy1⟩:∃ y,y = wd.heap.size:=⟨_,rfl⟩
  have S_y1:Hid (Grow wd y1):=Lib.hid (by rw [hy1];exact (Grow.refl _).alloc _)
  have G_y1:=Lib.hid (Grow.trans (GD) S_y1.out)
  have lit_y1:Hid (OwnC Ty.rc (fun _=>none) y1 (w.heap.size + 1) 48 (.slice (some ⟨By1,0,none⟩) 1 1) [⟨4,0,[]⟩]):=Lib.hid (by rw [hy1,hBy1];exact one_boot _ (by have:=(GD).size;have:=HZ.out;omega))
  rw [← hy1,← hBy1]
  clear hy1 hBy1
  refine HK.out _ _ ⟨fun _=>HTRU.out _ G_y1.out,?_⟩
  clear HK K
  try simp only [Act.put,lzA,lzB,lzC,lzD,lzE,lzF]
  refine bP 2 4 (by kernel_rfl) rfl rfl ?_ ?_
  ·intro K HK
   try simp only [lzA,lzB,lzC]
   go_simp
   go_at_call 43
   refine (ref_head (l:=[⟨4,0,[]⟩]) (c:=fr w y1 [some w.heap.size]) y1 (fr_sub _ _ _) (OwnC.slc (d:=fr w y1 [some w.heap.size]) (by decide) (lit_y1.out) (fun _ _ e=>by cases e) fun a ha=>fr_new (by omega) (by simp;omega)) (by decide)).mono ?_
   rintro e y2 ⟨vh,rfl,hx,hby2⟩
   obtain ⟨al2,cl2,ar2,cr2,rfl⟩:=hx.hd_form
   have S_y2:Hid (Grow y1 y2):=Lib.hid (hby2)
   have G_y2:=Lib.hid (Grow.trans (G_y1.out) S_y2.out)
   have hd_y2:=Lib.hid (Of.mono (fr_back hby2 (by have:=(G_y1.out).size;have:=HZ.out;omega) (fun k9 hk9=>by have:=(G_y1.out).size;have:=HZ.out;simp;omega)) hx)
   clear hx hby2
   generalize hqh:headR [⟨4,0,[]⟩] = qh at *
   have HQH:=Lib.hid hqh
   clear hqh
   refine HK.out _ _ ⟨fun _=>HTRU.out _ G_y2.out,?_⟩
   clear HK K
   try simp only [Act.put,lzA,lzB,lzC,lzD,lzE,lzF]
   refine bO 4 (by kernel_rfl) rfl ?_
   intro K HK
   try simp only [lzA,lzB,lzC]
   have hmk9:=hmk y2
   go_simp
   clear hmk9
   obtain ⟨y3,hy3⟩:∃ y:World,y = y2.alloc (.cells cs 29):=⟨_,rfl⟩
   obtain ⟨By3,hBy3⟩:∃ y,y = y2.heap.size:=⟨_,rfl⟩
   have S_y3:Hid (Grow y2 y3):=Lib.hid (by rw [hy3];exact (Grow.refl _).alloc _)
   have G_y3:=Lib.hid (Grow.trans (G_y2.out) S_y3.out)
   have hd_y3:=Lib.hid (Of.mono (fr_grow S_y3.out) (hd_y2.out))
   have hs_y3:Hid (OwnC Ty.hs (fun _=>none) y3 (w.heap.size + 1) 29 (.slice (some ⟨By3,0,none⟩) n n) (List.replicate n hs0)):=Lib.hid (by rw [hy3,hBy3];exact (HMS.out _).base (by have:=(G_y2.out).size;have:=HZ.out;omega))
   rw [← hy3,← hBy3]
   clear hy3 hBy3
   refine HK.out _ _ ⟨fun _=>HTRU.out _ G_y3.out,?_⟩
   clear HK K
   try simp only [Act.put,lzA,lzB,lzC,lzD,lzE,lzF]
   refine bO 5 (by kernel_rfl) rfl ?_
   intro K HK
   try simp only [lzA,lzB,lzC]
   go_simp
   refine HK.out _ _ ⟨fun _=>HTRU.out _ G_y3.out,?_⟩
   clear HK K
   try simp only [Act.put,lzA,lzB,lzC,lzD,lzE,lzF]
   refine bO 6 (by kernel_rfl) rfl ?_
   intro K HK
   refine wanted_go rfl ?_
   try simp only [lzA,lzB,lzC]
   refine wp_store_row (.tmp 2) (.tmp 16) rfl rfl rfl (row_grow R2.out (G_y3.out)) info_wd rfl rfl ?_
   intro w7 r7 g7
   refine HK.out _ _ ⟨fun _=>trivial,?_⟩
   clear HK K
   try simp only [Act.put]
   refine bO 7 (by kernel_rfl) rfl ?_
   intro K HK
   try simp only [lzA,lzB,lzC]
   go_simp
   refine HK.out _ _ ⟨fun h=>absurd rfl h,?_⟩
   clear HK K
   try simp only [Act.put,lzA,lzB,lzC,lzD,lzE,lzF]
   refine but_done (by kernel_rfl) ?_
   obtain ⟨p0,p1,p2,p3,p4,p5⟩:=cells6 r7
   go_wp2
   refine bodyPost_ret (v:=.tuple #[.agg #[.slice al2 qh.log.length cl2,.int .i64 qh.boot,.int .i64 qh.next,.slice ar2 qh.opn.length cr2,.slice (some ⟨By3,0,none⟩) n n,.slice none 0 0],.int .i64 0]) (by simp [results,Try.results137,go_sem,p0,p1,p2,p3,p4,p5]) rfl ?_
   have G7:=(G1.out.trans (G_y3.out)).grown g7 (fun q hq=>by simp at hq;omega)
   refine ⟨_,rfl,?_,G7⟩
   unfold newA
   rw [HQH.out]
   refine Of.wd_mk ((hd_y3.out).mono (fr_past g7)) ?_ (Sl.nil _ _)
   have h9:=OwnC.slc (T:=Ty.hs) (c:=fun _=>none) (d:=ov (fun _=>none) w w7) (by decide) ((hs_y3.out).kept g7 (own_apart (hs_y3.out) (by omega))) (fun _ _ e=>by cases e) fun a ha=>ov_new (by omega)
   exact h9
  ·intro K HK
   try simp only [lzA,lzB,lzC]
   have hmk9:=hmk y1
   go_simp
   clear hmk9
   obtain ⟨y4,hy4⟩:∃ y:World,y = y1.alloc (.cells cs 29):=⟨_,rfl⟩
   obtain ⟨By4,hBy4⟩:∃ y,y = y1.heap.size:=⟨_,rfl⟩
   have S_y4:Hid (Grow y1 y4):=Lib.hid (by rw [hy4];exact (Grow.refl _).alloc _)
   have G_y4:=Lib.hid (Grow.trans (G_y1.out) S_y4.out)
   have lit_y4:=Lib.hid (OwnC.grow (lit_y1.out) S_y4.out)
   have hs_y4:Hid (OwnC Ty.hs (fun _=>none) y4 (w.heap.size + 1) 29 (.slice (some ⟨By4,0,none⟩) n n) (List.replicate n hs0)):=Lib.hid (by rw [hy4,hBy4];exact (HMS.out _).base (by have:=(G_y1.out).size;have:=HZ.out;omega))
   rw [← hy4,← hBy4]
   clear hy4 hBy4
   refine HK.out _ _ ⟨fun _=>HTRU.out _ G_y4.out,?_⟩
   clear HK K
   try simp only [Act.put,lzA,lzB,lzC,lzD,lzE,lzF]
   refine bO 2 (by kernel_rfl) rfl ?_
   intro K HK
   try simp only [lzA,lzB,lzC]
   go_simp
   go_at_call 43
   refine (ref_head (l:=[⟨4,0,[]⟩]) (c:=fr w y4 [some w.heap.size]) y4 (fr_sub _ _ _) (OwnC.slc (d:=fr w y4 [some w.heap.size]) (by decide) (lit_y4.out) (fun _ _ e=>by cases e) fun a ha=>fr_new (by omega) (by simp;omega)) (by decide)).mono ?_
   rintro e y5 ⟨vh,rfl,hx,hby5⟩
   obtain ⟨al2,cl2,ar2,cr2,rfl⟩:=hx.hd_form
   have S_y5:Hid (Grow y4 y5):=Lib.hid (hby5)
   have G_y5:=Lib.hid (Grow.trans (G_y4.out) S_y5.out)
   have hs_y5:=Lib.hid (OwnC.grow (hs_y4.out) S_y5.out)
   have hd_y5:=Lib.hid (Of.mono (fr_back hby5 (by have:=(G_y4.out).size;have:=HZ.out;omega) (fun k9 hk9=>by have:=(G_y4.out).size;have:=HZ.out;simp;omega)) hx)
   clear hx hby5
   generalize hqh:headR [⟨4,0,[]⟩] = qh at *
   have HQH:=Lib.hid hqh
   clear hqh
   refine HK.out _ _ ⟨fun _=>HTRU.out _ G_y5.out,?_⟩
   clear HK K
   try simp only [Act.put,lzA,lzB,lzC,lzD,lzE,lzF]
   refine bO 5 (by kernel_rfl) rfl ?_
   intro K HK
   try simp only [lzA,lzB,lzC]
   go_simp
   refine HK.out _ _ ⟨fun _=>HTRU.out _ G_y5.out,?_⟩
   clear HK K
   try simp only [Act.put,lzA,lzB,lzC,lzD,lzE,lzF]
   refine bO 6 (by kernel_rfl) rfl ?_
   intro K HK
   refine wanted_go rfl ?_
   try simp only [lzA,lzB,lzC]
   refine wp_store_row (.tmp 2) (.tmp 16) rfl rfl rfl (row_grow R2.out (G_y5.out)) info_wd rfl rfl ?_
   intro w7 r7 g7
   refine HK.out _ _ ⟨fun _=>trivial,?_⟩
   clear HK K
   try simp only [Act.put]
   refine bO 7 (by kernel_rfl) rfl ?_
   intro K HK
   try simp only [lzA,lzB,lzC]
   go_simp
   refine HK.out _ _ ⟨fun h=>absurd rfl h,?_⟩
   clear HK K
   try simp only [Act.put,lzA,lzB,lzC,lzD,lzE,lzF]
   refine but_done (by kernel_rfl) ?_
   obtain ⟨p0,p1,p2,p3,p4,p5⟩:=cells6 r7
   go_wp2
   refine bodyPost_ret (v:=.tuple #[.agg #[.slice al2 qh.log.length cl2,.int .i64 qh.boot,.int .i64 qh.next,.slice ar2 qh.opn.length cr2,.slice (some ⟨By4,0,none⟩) n n,.slice none 0 0],.int .i64 0]) (by simp [results,Try.results137,go_sem,p0,p1,p2,p3,p4,p5]) rfl ?_
   have G7:=(G1.out.trans (G_y5.out)).grown g7 (fun q hq=>by simp at hq;omega)
   refine ⟨_,rfl,?_,G7⟩
   unfold newA
   rw [HQH.out]
   refine Of.wd_mk ((hd_y5.out).mono (fr_past g7)) ?_ (Sl.nil _ _)
   have h9:=OwnC.slc (T:=Ty.hs) (c:=fun _=>none) (d:=ov (fun _=>none) w w7) (by decide) ((hs_y5.out).kept g7 (own_apart (hs_y5.out) (by omega))) (fun _ _ e=>by cases e) fun a ha=>ov_new (by omega)
   exact h9
 ·intro K HK
  try simp only [lzA,lzB,lzC]
  have hmk9:=hmk wd
  go_simp
  clear hmk9
  obtain ⟨y6,hy6⟩:∃ y:World,y = wd.alloc (.cells cs 29):=⟨_,rfl⟩
  obtain ⟨By6,hBy6⟩:∃ y,y = wd.heap.size:=⟨_,rfl⟩
  have S_y6:Hid (Grow wd y6):=Lib.hid (by rw [hy6];exact (Grow.refl _).alloc _)
  have G_y6:=Lib.hid (Grow.trans (GD) S_y6.out)
  have hs_y6:Hid (OwnC Ty.hs (fun _=>none) y6 (w.heap.size + 1) 29 (.slice (some ⟨By6,0,none⟩) n n) (List.replicate n hs0)):=Lib.hid (by rw [hy6,hBy6];exact (HMS.out _).base (by have:=(GD).size;have:=HZ.out;omega))
  rw [← hy6,← hBy6]
  clear hy6 hBy6
  refine HK.out _ _ ⟨fun _=>HTRU.out _ G_y6.out,?_⟩
  clear HK K
  try simp only [Act.put,lzA,lzB,lzC,lzD,lzE,lzF]
  refine bO 1 (by kernel_rfl) rfl ?_
  intro K HK
  try simp only [lzA,lzB,lzC]
  go_simp
  obtain ⟨y7,hy7⟩:∃ y:World,y = y6.alloc (.cells #[.int .i64 4,.int .i64 0,.slice none 0 0] 48):=⟨_,rfl⟩
  obtain ⟨By7,hBy7⟩:∃ y,y = y6.heap.size:=⟨_,rfl⟩
  have S_y7:Hid (Grow y6 y7):=Lib.hid (by rw [hy7];exact (Grow.refl _).alloc _)
  have G_y7:=Lib.hid (Grow.trans (G_y6.out) S_y7.out)
  have hs_y7:=Lib.hid (OwnC.grow (hs_y6.out) S_y7.out)
  have lit_y7:Hid (OwnC Ty.rc (fun _=>none) y7 (w.heap.size + 1) 48 (.slice (some ⟨By7,0,none⟩) 1 1) [⟨4,0,[]⟩]):=Lib.hid (by rw [hy7,hBy7];exact one_boot _ (by have:=(G_y6.out).size;have:=HZ.out;omega))
  rw [← hy7,← hBy7]
  clear hy7 hBy7
  refine HK.out _ _ ⟨fun _=>HTRU.out _ G_y7.out,?_⟩
  clear HK K
  try simp only [Act.put,lzA,lzB,lzC,lzD,lzE,lzF]
  refine bO 2 (by kernel_rfl) rfl ?_
  intro K HK
  try simp only [lzA,lzB,lzC]
  go_simp
  go_at_call 43
  refine (ref_head (l:=[⟨4,0,[]⟩]) (c:=fr w y7 [some w.heap.size]) y7 (fr_sub _ _ _) (OwnC.slc (d:=fr w y7 [some w.heap.size]) (by decide) (lit_y7.out) (fun _ _ e=>by cases e) fun a ha=>fr_new (by omega) (by simp;omega)) (by decide)).mono ?_
  rintro e y8 ⟨vh,rfl,hx,hby8⟩
  obtain ⟨al2,cl2,ar2,cr2,rfl⟩:=hx.hd_form
  have S_y8:Hid (Grow y7 y8):=Lib.hid (hby8)
  have G_y8:=Lib.hid (Grow.trans (G_y7.out) S_y8.out)
  have hs_y8:=Lib.hid (OwnC.grow (hs_y7.out) S_y8.out)
  have hd_y8:=Lib.hid (Of.mono (fr_back hby8 (by have:=(G_y7.out).size;have:=HZ.out;omega) (fun k9 hk9=>by have:=(G_y7.out).size;have:=HZ.out;simp;omega)) hx)
  clear hx hby8
  generalize hqh:headR [⟨4,0,[]⟩] = qh at *
  have HQH:=Lib.hid hqh
  clear hqh
  refine HK.out _ _ ⟨fun _=>HTRU.out _ G_y8.out,?_⟩
  clear HK K
  try simp only [Act.put,lzA,lzB,lzC,lzD,lzE,lzF]
  refine bO 5 (by kernel_rfl) rfl ?_
  intro K HK
  try simp only [lzA,lzB,lzC]
  go_simp
  refine HK.out _ _ ⟨fun _=>HTRU.out _ G_y8.out,?_⟩
  clear HK K
  try simp only [Act.put,lzA,lzB,lzC,lzD,lzE,lzF]
  refine bO 6 (by kernel_rfl) rfl ?_
  intro K HK
  refine wanted_go rfl ?_
  try simp only [lzA,lzB,lzC]
  refine wp_store_row (.tmp 2) (.tmp 16) rfl rfl rfl (row_grow R2.out (G_y8.out)) info_wd rfl rfl ?_
  intro w7 r7 g7
  refine HK.out _ _ ⟨fun _=>trivial,?_⟩
  clear HK K
  try simp only [Act.put]
  refine bO 7 (by kernel_rfl) rfl ?_
  intro K HK
  try simp only [lzA,lzB,lzC]
  go_simp
  refine HK.out _ _ ⟨fun h=>absurd rfl h,?_⟩
  clear HK K
  try simp only [Act.put,lzA,lzB,lzC,lzD,lzE,lzF]
  refine but_done (by kernel_rfl) ?_
  obtain ⟨p0,p1,p2,p3,p4,p5⟩:=cells6 r7
  go_wp2
  refine bodyPost_ret (v:=.tuple #[.agg #[.slice al2 qh.log.length cl2,.int .i64 qh.boot,.int .i64 qh.next,.slice ar2 qh.opn.length cr2,.slice (some ⟨By6,0,none⟩) n n,.slice none 0 0],.int .i64 0]) (by simp [results,Try.results137,go_sem,p0,p1,p2,p3,p4,p5]) rfl ?_
  have G7:=(G1.out.trans (G_y8.out)).grown g7 (fun q hq=>by simp at hq;omega)
  refine ⟨_,rfl,?_,G7⟩
  unfold newA
  rw [HQH.out]
  refine Of.wd_mk ((hd_y8.out).mono (fr_past g7)) ?_ (Sl.nil _ _)
  have h9:=OwnC.slc (T:=Ty.hs) (c:=fun _=>none) (d:=ov (fun _=>none) w w7) (by decide) ((hs_y8.out).kept g7 (own_apart (hs_y8.out) (by omega))) (fun _ _ e=>by cases e) fun a ha=>ov_new (by omega)
  exact h9
theorem ovn_set {w W W2 w':World} {A:Nat} (hg:Grow w W) (hA:A < W.heap.size) (h2:W2.grownBy w' (some A)) (_:Grow W W2):Sub (ov (fun _=>none) W W2) (ov (fun _=>none) w w'):=fun a v e=>by
 have hs:=hg.size
 unfold ov at e
 split at e
 ·cases e
 ·rw [ov_new (by omega),by_cell h2 (World.block_lt_of_cell? W2 a e) (by omega)];exact e
set_option maxRecDepth 100000 in
set_option maxHeartbeats 2000000 in
theorem whead_new (w:World):Calls Try.prog 105 #[] w fun e w'=>∃ v',e = .returned v'∧Of Ty.hd (ov (fun _=>none) w w') v' (headR [⟨4,0,[]⟩])∧Grow w w':=by
 obtain ⟨wz,hwz⟩:∃ y:World,y = w.alloc (.cells #[.slice none 0 0,.int .i64 0,.int .i64 0,.slice none 0 0] 57):=⟨_,rfl⟩
 have R1:Hid (wz.heap[w.heap.size]? = some (.cells #[.slice none 0 0,.int .i64 0,.int .i64 0,.slice none 0 0] 57 (0,0))):=Lib.hid (by rw [hwz];exact row_new _ _)
 have G1:Hid (Grow w wz):=Lib.hid (by rw [hwz];exact (Grow.refl w).alloc _)
 have HLH:=Lib.hid (wlog_head (wz.alloc (.cells #[.int .i64 4,.int .i64 0,.slice none 0 0] 48)) (l:=[⟨4,0,[]⟩]) ((one_boot (c:=fun _=>none) wz (Nat.le_refl _)).slc (d:=(wz.alloc (.cells #[.int .i64 4,.int .i64 0,.slice none 0 0] 48)).cell?) (by decide) (fun _ _ e=>by cases e) fun _ _=>rfl) (by decide) (by simp))
 go_enter Try.func105,Try.ntmps105
 go_upto_region 1 with fail
 rw [← hwz]
 clear hwz
 go_wp2_with fail
 refine HLH.out.mono ?_
 rintro e w1 ⟨v1,rfl,hx,hb1⟩
 obtain ⟨al,cl,ar,cr,rfl⟩:=hx.hd_form
 have R2:=Lib.hid (row_grow (row_grow R1.out ((Grow.refl _).alloc _)) hb1)
 have HX:=Lib.hid hx
 have GB:=Lib.hid hb1
 clear hx hb1
 go_wp2_with (first | (refine wpList_store_row rfl (.tmp 0) (.tmp 3) rfl rfl rfl R2.out info_hd rfl rfl ?_))
 intro w7 r7 g7
 obtain ⟨p0,p1,p2,p3⟩:=cells4 r7
 go_wp2
 refine bodyPost_ret (v:=.agg #[.slice al (headR [⟨4,0,[]⟩]).log.length cl,.int .i64 (headR [⟨4,0,[]⟩]).boot,.int .i64 (headR [⟨4,0,[]⟩]).next,.slice ar (headR [⟨4,0,[]⟩]).opn.length cr]) (by simp [results,Try.results105,go_sem,p0,p1,p2,p3]) rfl ?_
 have z1:=(Array.getElem?_eq_some_iff.1 R1.out).1
 exact ⟨_,rfl,HX.out.mono (ovn_set (G1.out.alloc _) (by simp;omega) g7 GB.out),((G1.out.alloc _).trans GB.out).grown g7 (fun q hq=>by have:=Option.some.inj hq;omega)⟩
set_option maxRecDepth 100000 in
set_option maxHeartbeats 2000000 in
theorem whead_tick {v:Value} {h:Hd} (w:World) (hv:Of Ty.hd w.cell? v h) (hk:HdOk h) (hr:∀ o ∈ h.opn,PtsR o.parts) :
  Calls Try.prog 108 #[v] w fun e w'=>∃ v',e = .returned v'∧OwnC Ty.ms (fr w w' [v'.ownBlock]) w' w.heap.size 39 v' (tickE h)∧Grow w w':=by
 obtain ⟨al,cl,ar,cr,rfl⟩:=hv.hd_form
 obtain ⟨ar',cr',he,h1,h2,-,hel⟩:=(Of.hd_log hv).2
 obtain ⟨rfl,rfl⟩:ar = ar'∧cr = cr':=by simpa using he
 unfold maxLen at h2
 have HPR:=Lib.hid hr
 have h12:=hk.opn
 clear hk he hv hr
 obtain ⟨wz,hwz⟩:∃ y:World,y = w.alloc (.cells #[.slice al h.log.length cl,.int .i64 h.boot,.int .i64 h.next,.slice ar h.opn.length cr] 57):=⟨_,rfl⟩
 have R1:Hid (wz.heap[w.heap.size]? = some (.cells #[.slice al h.log.length cl,.int .i64 h.boot,.int .i64 h.next,.slice ar h.opn.length cr] 57 (0,0))):=Lib.hid (by rw [hwz];exact row_new _ _)
 have G1:Hid (Grow w wz):=Lib.hid (by rw [hwz];exact (Grow.refl w).alloc _)
 go_enter Try.func108,Try.ntmps108
 go_upto_region 2 with fail
 rw [← hwz]
 clear hwz
 obtain ⟨c0,c1,c2,c3⟩:=cells4 R1.out
 have z1:w.heap.size < wz.heap.size:=(Array.getElem?_eq_some_iff.1 R1.out).1
 go_wp2
 clear c0 c1 c2 c3 z1
 go_loopw [3,8] (fun s3 i wr=>∃ k:Nat,k ≤ h.opn.length∧i = .int .i64 k∧Grow wz wr∧OwnC Ty.ms (fr wz wr [s3.ownBlock]) wr wz.heap.size 39 s3 ((h.opn.take k).flatMap asksE)) (fun _ i _=>h.opn.length - (intOf i).toNat)
 case atStart=>exact ⟨0,by omega,rfl,Grow.refl _,OwnC.nil _ _ _ _ _⟩
 case round=>
  obtain ⟨k,hk',rfl,hb,hown⟩:=hrel
  by_cases hlt:k < h.opn.length
  ·obtain ⟨b,o,vp,vh,rfl,c0,c1,c2,c3,i0,hP,hH⟩:=Opns.at_ hel k hlt
   obtain ⟨ap,cp,rfl,-⟩:=id hP
   obtain ⟨ah,ch,rfl,-⟩:=id hH
   have GW:=Lib.hid (G1.out.trans hb)
   have HAS:=Lib.hid (fun (W:World) (hW:Grow w W)=>head_asks (o:=h.opn[k]) W ⟨hW.sub _ _ c0,hW.sub _ _ c1,hW.sub _ _ c2,hW.sub _ _ c3,i0,hP.mono hW.sub,hH.mono hW.sub⟩ (HPR.out _ (List.getElem_mem hlt)))
   have HTK:=Lib.hid (flat_next asksE hlt)
   have HLK:=Lib.hid (show ((h.opn.take k).flatMap asksE).length ≤ 36 by have:=flat_short asks_short (h.opn.take k);rw [List.length_take] at this;omega)
   have HAL:=Lib.hid (asks_short h.opn[k])
   have HOWN:=Lib.hid hown
   have HB:=Lib.hid hb
   obtain ⟨av,cv,rfl⟩:=hown.form
   have R2:=Lib.hid (row_grow R1.out hb)
   clear hel hP hH hown hb i0 c0 c1 c2 c3
   generalize h.opn[k] = q at *
   generalize (h.opn.take k).flatMap asksE = ms at *
   obtain ⟨d0,d1,d2,d3⟩:=cells4 R2.out
   have z1:w.heap.size < wr.heap.size:=(Array.getElem?_eq_some_iff.1 R2.out).1
   go_wp2_with fail
   refine (HAS.out _ GW.out).mono ?_
   rintro e w4 ⟨v4,rfl,ho4,hb4⟩
   obtain ⟨a4,c4,rfl⟩:=ho4.form
   have G4:=Lib.hid hb4
   have HSR:=Lib.hid (src_new (w:=wz) (row:=(Value.slice av ms.length cv).ownBlock) (by decide) HB.out (fun q hq=>(HOWN.out.lt q hq).2) ho4)
   have HO4:=Lib.hid ((HOWN.out.mono (fr_grow G4.out)).grow G4.out)
   clear ho4 hb4 d0 d1 d2 d3 z1
   generalize asksE q = aq at *
   go_wp2_with (first | (at_builtin;refine wpList_appc (c:=fr wz w4 [(Value.slice av ms.length cv).ownBlock]) (base:=wz.heap.size) (l:=ms) (m:=aq) ei_ms rfl one_Tms (by decide) rfl (.tmp 11) (.tmp 16) rfl rfl HO4.out rfl HSR.out ?d2 ?d3 ?_))
   case d2=>have:=HLK.out;have:=HAL.out;omega
   case d3=>have:=HB.out.size;have:=G4.out.size;omega
   intro a9 c9 w9 ho9 hg9 hb9
   have HG9:Hid (Grow wz w9):=Lib.hid (grow_by (w0:=wz) (HB.out.trans G4.out) hg9 (fun q hq=>(HOWN.out.lt q hq).1))
   have HO9:=Lib.hid (ho9.mono (fr_app hg9 (hb9.imp_right fun ⟨g,e,hge⟩=>⟨g,e,by simpa using hge⟩)))
   clear ho9 hg9 hb9
   go_wp2
   go_roundw
   case rel=>exact ⟨k + 1,by omega,by go_num,HG9.out,by rw [HTK.out];exact HO9.out⟩
   case measure=>simp [intOf];omega
  ·have HOWN:=Lib.hid hown
   have HB:=Lib.hid hb
   clear hel hown hb
   go_wp2
   go_ret
   have h9:=HOWN.out
   rw [List.take_of_length_le (by omega)] at h9
   exact ⟨_,rfl,(h9.mono (fr_low G1.out.size)).base G1.out.size,G1.out.trans HB.out⟩
theorem HR.head {w W:World} {B:Nat} {vl vo:Value} {h:Hd} {L:List OpH} (b:HR w W B vl vo h.log L) (hl:L.map (·.1) = h.opn) (h1:I64 h.boot) (h2:I64 h.next):Of Ty.hd (ov (fun _=>none) w W) (.agg #[vl,.int .i64 h.boot,.int .i64 h.next,vo]) h:=by
 have e:=b.of h1 h2
 rw [hl] at e
 exact e
theorem HR.form {w W:World} {B:Nat} {vl vo:Value} {lg:List Rc} {L:List OpH} (b:HR w W B vl vo lg L):∃ al cl ao co,vl = .slice al lg.length cl∧vo = .slice ao L.length co:=by
 obtain ⟨al,cl,rfl⟩:=b.log.form
 obtain ⟨ao,co,rfl⟩:=b.opn.form
 exact ⟨_,_,_,_,rfl,rfl⟩
set_option maxRecDepth 100000 in
set_option maxHeartbeats 2000000 in
theorem whead_fall {v:Value} {h:Hd} (w:World) (hv:Of Ty.hd w.cell? v h) (hk:HdOk h) (hp:∀ r ∈ h.log,r.parts.length * 24 ≤ 140737488355328) :
  Calls Try.prog 102 #[v] w fun e w'=>∃ v',e = .returned (.tuple #[v',.int .i64 (fallE h)])∧Of Ty.hd (ov (fun _=>none) w w') v' (fallH h)∧Grow w w':=by
 obtain ⟨al,cl,ar,cr,rfl⟩:=hv.hd_form
 have HIB:Hid (I64 h.boot∧I64 h.next):=Lib.hid (by obtain ⟨cs,he,_,_,rfl,_,h1,h2,_⟩:=hv;exact ⟨h1,h2⟩)
 have HOW:=Lib.hid (fun (W:World) (hW:Grow w W)=>head_own W (hv.mono hW.sub) hk hp)
 have HLO:=Lib.hid (fun (W:World) (hW:Grow w W)=>log_own W ((Of.hd_log hv).1.mono hW.sub) (by have:=hk.log;omega) hp)
 have hll:=hk.log
 have HP:=Lib.hid hp
 obtain ⟨hb0,hb1⟩:=hk.boot
 clear hk hv hp
 obtain ⟨wa,hwa⟩:∃ y:World,y = w.alloc (.cells #[.slice al h.log.length cl,.int .i64 h.boot,.int .i64 h.next,.slice ar h.opn.length cr] 57):=⟨_,rfl⟩
 obtain ⟨wz,hwz⟩:∃ y:World,y = wa.alloc (.cells #[.slice none 0 0,.int .i64 0,.int .i64 0,.slice none 0 0] 57):=⟨_,rfl⟩
 have hsz:wa.heap.size = w.heap.size + 1:=by rw [hwa];simp
 have R1:Hid (wz.heap[w.heap.size]? = some (.cells #[.slice al h.log.length cl,.int .i64 h.boot,.int .i64 h.next,.slice ar h.opn.length cr] 57 (0,0))):=Lib.hid (by rw [hwz,hwa];exact heap_later (row_new _ _) _)
 have R2:Hid (wz.heap[w.heap.size + 1]? = some (.cells #[.slice none 0 0,.int .i64 0,.int .i64 0,.slice none 0 0] 57 (0,0))):=Lib.hid (by rw [hwz,← hsz];exact row_new _ _)
 have G1:Hid (Grow w wz):=Lib.hid (by rw [hwz,hwa];exact ((Grow.refl w).alloc _).alloc _)
 have HZ:Hid (wz.heap.size = w.heap.size + 2):=Lib.hid (by rw [hwz,hwa];simp)
 by_cases hb:19 < h.boot
 ·have HE1:Hid (fallH h = h):=Lib.hid (by unfold fallH;rw [if_pos hb])
  have HE2:Hid (fallE h = 5):=Lib.hid (by unfold fallE;rw [if_pos hb])
  have hb':20 ≤ h.boot:=by omega
  go_enter Try.func102,Try.ntmps102
  go_upto_region 1 with fail
  rw [← hwa]
  try rw [hsz]
  rw [← hwz]
  clear hwa hwz hsz
  obtain ⟨c0,c1,c2,c3⟩:=cells4 R1.out
  have z1:w.heap.size < wz.heap.size:=(Array.getElem?_eq_some_iff.1 R1.out).1
  go_wp2_with fail
  refine (HOW.out _ G1.out).mono ?_
  rintro e w1 ⟨vl,vo,B,L,rfl,hl,hr⟩
  obtain ⟨al2,cl2,ao2,co2,rfl,rfl⟩:=hr.form
  have HRR:=Lib.hid hr
  have HL:=Lib.hid hl
  have R3:=Lib.hid (row_grow R2.out hr.grow)
  clear hr hl c0 c1 c2 c3 z1
  go_wp2_with (first | (refine wpList_store_row rfl (.tmp 2) (.tmp 8) rfl rfl rfl R3.out info_hd rfl rfl ?_))
  intro w7 r7 g7
  obtain ⟨p0,p1,p2,p3⟩:=cells4 r7
  go_wp2
  refine bodyPost_ret (v:=.tuple #[.agg #[.slice al2 h.log.length cl2,.int .i64 h.boot,.int .i64 h.next,.slice ao2 L.length co2],.int .i64 5]) (by simp [results,Try.results102,go_sem,p0,p1,p2,p3]) rfl ?_
  have hx:=HRR.out.past G1.out g7 (by have:=HZ.out;omega)
  rw [HE1.out,HE2.out]
  exact ⟨_,rfl,hx.head HL.out HIB.out.1 HIB.out.2,hx.grow⟩
 ·have HE1:Hid (fallH h = headR (h.log ++ [⟨4,0,[]⟩])):=Lib.hid (by unfold fallH;rw [if_neg hb])
  have HE2:Hid (fallE h = 0):=Lib.hid (by unfold fallE;rw [if_neg hb])
  have hb':¬ 20 ≤ h.boot:=by omega
  have HPP:Hid (∀ r ∈ h.log ++ [(⟨4,0,[]⟩:Rc)],r.parts.length * 24 ≤ 140737488355328):=Lib.hid (fun r hr=>by
   rcases List.mem_append.1 hr with hr | hr
   ·exact HP.out r hr
   ·obtain rfl:=List.mem_singleton.1 hr;decide)
  have HLL:Hid ((h.log ++ [(⟨4,0,[]⟩:Rc)]).length = h.log.length + 1):=Lib.hid (by simp)
  go_enter Try.func102,Try.ntmps102
  go_upto_region 1 with fail
  rw [← hwa]
  try rw [hsz]
  rw [← hwz]
  clear hwa hwz hsz
  obtain ⟨c0,c1,c2,c3⟩:=cells4 R1.out
  have z1:w.heap.size < wz.heap.size:=(Array.getElem?_eq_some_iff.1 R1.out).1
  go_wp2_with fail
  refine (HLO.out _ G1.out).mono ?_
  rintro e w1 ⟨vl,rfl,hol,hb1⟩
  obtain ⟨a3,c3',rfl⟩:=hol.form
  have HOL:=Lib.hid hol
  have G3:=Lib.hid hb1
  clear hol hb1 c0 c1 c2 c3 z1
  go_wp2_with (first | (at_builtin;refine wpList_appc (c:=fr wz w1 [(Value.slice a3 h.log.length c3').ownBlock]) (base:=wz.heap.size) (l:=h.log) (m:=[⟨4,0,[]⟩]) ei_rc rfl one_Trc (by decide) rfl (.tmp 11) (.tmp 13) rfl rfl (HOL.out.grow ((Grow.refl _).alloc _)) rfl (Src.of_new (T:=Ty.rc) (x:=⟨4,0,[]⟩) (cs:=#[.int .i64 4,.int .i64 0,.slice none 0 0]) ⟨_,rfl,(show I64 4 from by unfold I64;decide),zero_ok,Sl.nil _ _⟩ _ _ ?d1) ?d2 ?d3 ?_))
  case d1=>first | rfl | simp
  case d2=>(try simp);omega
  case d3=>have:=G3.out.size;(try simp);omega
  intro a9 c9 w9 ho9 hg9 hb9
  have G9:=Lib.hid (grow_by (w0:=wz) (G3.out.alloc _) hg9 (fun q hq=>(HOL.out.lt q hq).1))
  have HX9:=Lib.hid ((ho9.mono ((fr_grow ((Grow.refl w1).alloc (.cells #[.int .i64 4,.int .i64 0,.slice none 0 0] 48))).trans (fr_app hg9 (hb9.imp_right fun ⟨g,e,hge⟩=>⟨g,e,by simpa using hge⟩)))).slc (d:=w9.cell?) (by decide) (fr_sub _ _ _) fun _ _=>rfl)
  have R29:=Lib.hid (row_grow R2.out G9.out)
  clear ho9 hg9 hb9
  generalize h.log ++ [(⟨4,0,[]⟩:Rc)] = lg at *
  go_wp2_with fail
  refine (wlog_head (l:=lg) w9 ?hl (by rw [HLL.out];omega) HPP.out).mono ?_
  case hl=>first | exact HX9.out | (have h9:=HX9.out;rw [HLL.out] at h9;simpa using h9)
  rintro e w10 ⟨v10,rfl,hx,hb10⟩
  obtain ⟨al2,cl2,ar2,cr2,rfl⟩:=hx.hd_form
  have R210:=Lib.hid (row_grow R29.out hb10)
  have HX:=Lib.hid hx
  have GB10:=Lib.hid hb10
  have G10:=Lib.hid (G9.out.trans hb10)
  clear hx hb10
  go_wp2_with (first | (refine wpList_store_row rfl (.tmp 2) (.tmp 15) rfl rfl rfl R210.out info_hd rfl rfl ?_))
  intro w7 r7 g7
  obtain ⟨p0,p1,p2,p3⟩:=cells4 r7
  go_wp2
  refine bodyPost_ret (v:=.tuple #[.agg #[.slice al2 (headR lg).log.length cl2,.int .i64 (headR lg).boot,.int .i64 (headR lg).next,.slice ar2 (headR lg).opn.length cr2],.int .i64 0]) (by simp [results,Try.results102,go_sem,p0,p1,p2,p3]) rfl ?_
  rw [HE1.out,HE2.out]
  refine ⟨_,rfl,?_,(G1.out.trans G10.out).grown g7 (fun q hq=>by simp at hq;omega)⟩
  exact HX.out.mono (ovn_set (G1.out.trans G9.out) (by have:=G9.out.size;have:=HZ.out;omega) g7 GB10.out)
theorem info_opn4:(Try.prog.info? 136).map (·.size) = some 4:=by kernel_rfl
set_option maxRecDepth 100000 in
set_option maxHeartbeats 4000000 in
theorem whead_begin {v vp:Value} {h:Hd} {P:List Pt} (w:World) (hv:Of Ty.hd w.cell? v h) (hp:Pts w.cell? vp P) (hk:HdOk h) (hlp:∀ r ∈ h.log,r.parts.length * 24 ≤ 140737488355328) (hP:PtsR P) :
  Calls Try.prog 110 #[v,vp] w fun e w'=>∃ v1 v2,e = .returned (.tuple #[v1,v2,.int .i64 (beginE h)])∧Of Ty.hd (ov (fun _=>none) w w') v1 (beginH h P)∧Sl Ty.ms (ov (fun _=>none) w w') v2 (beginM h P)∧Grow w w':=by
 obtain ⟨al,cl,ar,cr,rfl⟩:=hv.hd_form
 obtain ⟨ap,cp,rfl,-⟩:=id hp
 have HIB:Hid (I64 h.boot∧I64 h.next):=Lib.hid (by obtain ⟨cs,he,_,_,rfl,_,h1,h2,_⟩:=hv;exact ⟨h1,h2⟩)
 have HOW:=Lib.hid (fun (W:World) (hW:Grow w W)=>head_own W (hv.mono hW.sub) hk hlp)
 have HCL:=Lib.hid (fun (W:World) (hW:Grow w W)=>clone_pt W (hp.mono hW.sub) (by have:=hP.len;omega))
 have HPO:=Lib.hid (Pts.ok hp)
 have HPR:=Lib.hid hP
 have h12:=hk.opn
 obtain ⟨hb0,hb1⟩:=hk.boot
 obtain ⟨hn0,hn1⟩:=hk.next
 clear hk hv hp hP hlp
 obtain ⟨wa,hwa⟩:∃ y:World,y = w.alloc (.cells #[.slice al h.log.length cl,.int .i64 h.boot,.int .i64 h.next,.slice ar h.opn.length cr] 57):=⟨_,rfl⟩
 obtain ⟨wz,hwz⟩:∃ y:World,y = wa.alloc (.cells #[.slice none 0 0,.int .i64 0,.int .i64 0,.slice none 0 0] 57):=⟨_,rfl⟩
 have hsz:wa.heap.size = w.heap.size + 1:=by rw [hwa];simp
 have R1:Hid (wz.heap[w.heap.size]? = some (.cells #[.slice al h.log.length cl,.int .i64 h.boot,.int .i64 h.next,.slice ar h.opn.length cr] 57 (0,0))):=Lib.hid (by rw [hwz,hwa];exact heap_later (row_new _ _) _)
 have R2:Hid (wz.heap[w.heap.size + 1]? = some (.cells #[.slice none 0 0,.int .i64 0,.int .i64 0,.slice none 0 0] 57 (0,0))):=Lib.hid (by rw [hwz,← hsz];exact row_new _ _)
 have G1:Hid (Grow w wz):=Lib.hid (by rw [hwz,hwa];exact ((Grow.refl w).alloc _).alloc _)
 have HZ:Hid (wz.heap.size = w.heap.size + 2):=Lib.hid (by rw [hwz,hwa];simp)
 go_enter Try.func110,Try.ntmps110
 go_upto_region 1 with fail
 rw [← hwa]
 try rw [hsz]
 rw [← hwz]
 clear hwa hwz hsz
 obtain ⟨c0,c1,c2,c3⟩:=cells4 R1.out
 have z1:w.heap.size < wz.heap.size:=(Array.getElem?_eq_some_iff.1 R1.out).1
 go_wp2_with fail
 refine (HOW.out _ G1.out).mono ?_
 rintro e w1 ⟨vl,vo,B0,L,rfl,hl,hr0⟩
 obtain ⟨ag,cg,ao,co,rfl,rfl⟩:=hr0.form
 have HL:=Lib.hid hl
 have HR0:=Lib.hid hr0
 clear hr0 hl c0 c1 c2 c3 z1
 obtain ⟨w2,hw2⟩:∃ y:World,y = w1.alloc (.cells #[.slice ag h.log.length cg,.int .i64 h.boot,.int .i64 h.next,.slice ao L.length co] 57):=⟨_,rfl⟩
 obtain ⟨B7,hB7⟩:∃ y,y = w1.heap.size:=⟨_,rfl⟩
 have R7:Hid (w2.heap[B7]? = some (.cells #[.slice ag h.log.length cg,.int .i64 h.boot,.int .i64 h.next,.slice ao L.length co] 57 (0,0))):=Lib.hid (by rw [hw2,hB7];exact row_new _ _)
 have HRR:Hid (HR wz w2 B7 (.slice ag h.log.length cg) (.slice ao L.length co) h.log L):=Lib.hid (HR0.out.rebox (by rw [hw2];exact (Grow.refl _).alloc _) (by omega) (by rw [hw2,hB7];simp))
 have HLN:Hid (L.length = h.opn.length):=Lib.hid (by rw [← HL.out];simp)
 have R12:=Lib.hid (row_grow R1.out HRR.out.grow)
 have R22:=Lib.hid (row_grow R2.out HRR.out.grow)
 go_upto_region 2 with fail
 rw [← hw2,← hB7]
 clear hw2 hB7
 obtain ⟨c0,c1,c2,c3'⟩:=cells4 R12.out
 obtain ⟨d0,d1,d2,d3⟩:=cells4 R7.out
 have z1:w.heap.size < w2.heap.size:=(Array.getElem?_eq_some_iff.1 R12.out).1
 have z7:B7 < w2.heap.size:=(Array.getElem?_eq_some_iff.1 R7.out).1
 have zr:w.heap.size + 1 < w2.heap.size:=(Array.getElem?_eq_some_iff.1 R22.out).1
 by_cases hf1:11 < h.opn.length
 ·obtain ⟨e1,e2,e3⟩:=begin_full (P:=P) (show fullE h = true from decide_eq_true (.inl hf1))
  have HE1:=Lib.hid e1
  have HE2:=Lib.hid e2
  have HE3:=Lib.hid e3
  have hf1':(12:Int) ≤ (h.opn.length:Int):=by omega
  clear e1 e2 e3 hf1
  go_wp2_with (first | (refine wpList_store_row rfl (.tmp 4) (.tmp 20) rfl rfl rfl R22.out info_hd rfl rfl ?_))
  intro w7 r7 g7
  obtain ⟨p0,p1,p2,p3⟩:=cells4 r7
  go_wp2
  refine bodyPost_ret (v:=.tuple #[.agg #[.slice ag h.log.length cg,.int .i64 h.boot,.int .i64 h.next,.slice ao L.length co],.slice none 0 0,.int .i64 9]) (by simp [results,Try.results110,go_sem,p0,p1,p2,p3]) rfl ?_
  have hx:=HRR.out.past G1.out g7 (by have:=HZ.out;omega)
  rw [HE1.out,HE2.out,HE3.out]
  exact ⟨_,_,rfl,hx.head HL.out HIB.out.1 HIB.out.2,Sl.nil _ _,hx.grow⟩
 by_cases hf2:63 < h.next
 ·obtain ⟨e1,e2,e3⟩:=begin_full (P:=P) (show fullE h = true from decide_eq_true (.inr hf2))
  have HE1:=Lib.hid e1
  have HE2:=Lib.hid e2
  have HE3:=Lib.hid e3
  have hf1':¬ (12:Int) ≤ (h.opn.length:Int):=by omega
  have hf2':(64:Int) ≤ h.next:=by omega
  clear e1 e2 e3 hf1 hf2
  go_wp2_with (first | (refine wpList_store_row rfl (.tmp 4) (.tmp 20) rfl rfl rfl R22.out info_hd rfl rfl ?_))
  intro w7 r7 g7
  obtain ⟨p0,p1,p2,p3⟩:=cells4 r7
  go_wp2
  refine bodyPost_ret (v:=.tuple #[.agg #[.slice ag h.log.length cg,.int .i64 h.boot,.int .i64 h.next,.slice ao L.length co],.slice none 0 0,.int .i64 9]) (by simp [results,Try.results110,go_sem,p0,p1,p2,p3]) rfl ?_
  have hx:=HRR.out.past G1.out g7 (by have:=HZ.out;omega)
  rw [HE1.out,HE2.out,HE3.out]
  exact ⟨_,_,rfl,hx.head HL.out HIB.out.1 HIB.out.2,Sl.nil _ _,hx.grow⟩
 obtain ⟨e1,e2,e3⟩:=begin_go (P:=P) (show fullE h = false from decide_eq_false (by omega))
 have HE1:=Lib.hid e1
 have HE2:=Lib.hid e2
 have HE3:=Lib.hid e3
 have hf1':¬ (12:Int) ≤ (h.opn.length:Int):=by omega
 have hf2':¬ (64:Int) ≤ h.next:=by omega
 have hw1:IntKind.i64.wrap (64 * h.boot) = 64 * h.boot:=IntWalk.i64_in _ (by omega)
 have hw2:IntKind.i64.wrap (64 * h.boot + h.next) = 64 * h.boot + h.next:=IntWalk.i64_in _ (by omega)
 have hw3:IntKind.i64.wrap (h.next + 1) = h.next + 1:=IntWalk.i64_in _ (by omega)
 have HDI:Hid (I64 (64 * h.boot + h.next)):=Lib.hid (i64_of (by omega) (by omega))
 have HNI:Hid (I64 (h.next + 1)):=Lib.hid (i64_of (by omega) (by omega))
 have HL12:Hid (h.opn.length ≤ 11):=Lib.hid (by omega)
 clear e1 e2 e3 hf1 hf2
 have HS:Hid (∀ W,Grow w2 W→W.cell? ⟨w.heap.size,1,none⟩ = some (.int .i64 h.boot)∧W.cell? ⟨w.heap.size,2,none⟩ = some (.int .i64 h.next)):=fun W hW=>by
  obtain ⟨-,j1,j2,-⟩:=cells4 (row_grow R12.out hW)
  exact ⟨j1,j2⟩
 go_upto_region 4 with fail
 clear c0 c1 c2 c3' d0 d1 d2 d3 z1 z7 zr hf1' hf2'
 go_cut [8] from 21 (fun s8 wc=>∃ B8 a8 c8 dd,dd = 64 * h.boot + h.next∧s8 = .pointer (some ⟨B8,0,none⟩)∧wc.heap[B8]? = some (.cells #[.int .i64 dd,.slice a8 P.length c8,.bool false,.slice none 0 0] 136 (0,0))∧OwnC Ty.pt (fun _=>none) wc w2.heap.size 32 (.slice a8 P.length c8) P∧w2.heap.size ≤ B8∧Grow w2 wc)
 case first=>
  refine bSc (fun w'=>w'.cell? ⟨w.heap.size,1,none⟩ = some (.int .i64 h.boot)∧w'.cell? ⟨w.heap.size,2,none⟩ = some (.int .i64 h.next)) [10] (by kernel_rfl) ?_
  intro wd GD zD
  have ZD:=Lib.hid zD
  clear zD
  refine bLc [0,1,2,3,4,5,6] 13 (by kernel_rfl) (fun _ _ _ _ _ h=>h) (HS.out _ GD) ?_
  repeat (refine tNc (v:=?_) rfl (by rfl) ?_ ?_;rotate_left;(· (intro w' hSw;(try dsimp only at hSw);obtain ⟨hs0,hs1⟩:=hSw;go_simp <;> with_reducible rfl));try simp only [Act.put,lzA,lzB,lzC,lzD,lzE,lzF])
  refine tEc ?_
  refine bPc 7 9 (by kernel_rfl) rfl rfl ?_ ?_
  ·intro K HK
   try simp only [lzA,lzB,lzC]
   go_simp
   go_at_call 122
   refine (HCL.out _ (G1.out.trans (HRR.out.grow.trans GD))).mono ?_
   rintro e w5 ⟨v5,rfl,ho5,hb5⟩
   obtain ⟨a8,c8,rfl⟩:=owns_form ho5
   have HO5:=Lib.hid (OwnC.pts (c:=fun _=>none) ho5 HPO.out)
   have GB5:=Lib.hid hb5
   have G5:=Lib.hid (Grow.trans GD hb5)
   clear ho5 hb5
   refine HK.out _ _ ⟨.inr (HS.out _ G5.out),?_⟩
   clear HK K
   try simp only [Act.put,lzA,lzB,lzC,lzD,lzE,lzF]
   refine bLc [8] 13 (by kernel_rfl) (fun _ _ _ _ _ h=>h) (HS.out _ G5.out) ?_
   repeat (refine tNc (v:=?_) rfl (by rfl) ?_ ?_;rotate_left;(· (intro w' hSw;(try dsimp only at hSw);obtain ⟨hs0,hs1⟩:=hSw;go_simp <;> with_reducible rfl));try simp only [Act.put,lzA,lzB,lzC,lzD,lzE,lzF])
   refine tEc ?_
   refine bOc 9 (by kernel_rfl) rfl ?_
   intro K HK
   try simp only [lzA,lzB,lzC]
   go_simp
   obtain ⟨w6,hw6⟩:∃ y:World,y = w5.alloc (.cells #[.int .i64 0,.slice none 0 0,.bool false,.slice none 0 0] 136):=⟨_,rfl⟩
   obtain ⟨B8,hB8⟩:∃ B,B = w5.heap.size:=⟨_,rfl⟩
   rw [← hw6,← hB8]
   have R8:Hid (w6.heap[B8]? = some (.cells #[.int .i64 0,.slice none 0 0,.bool false,.slice none 0 0] 136 (0,0))):=Lib.hid (by rw [hw6,hB8];exact row_new _ _)
   have G6:Hid (Grow w5 w6):=Lib.hid (by rw [hw6];exact (Grow.refl _).alloc _)
   have HB8:=Lib.hid hB8
   have HS6:Hid (w6.heap.size = B8 + 1):=Lib.hid (by rw [hw6,hB8];simp)
   have GA6:=Lib.hid (Grow.trans G5.out G6.out)
   clear hw6 hB8
   refine HK.out _ _ ⟨.inr (HS.out _ GA6.out),?_⟩
   clear HK K
   try simp only [Act.put,lzA,lzB,lzC,lzD,lzE,lzF]
   refine bOc 10 (by kernel_rfl) rfl ?_
   intro K HK
   refine wanted_go rfl ?_
   try simp only [lzA,lzB,lzC]
   refine wp_store_row (.tmp 8) (.tmp 29) rfl rfl rfl R8.out info_opn4 rfl rfl ?_
   intro wc rc gc
   refine HK.out _ _ ⟨.inl (by decide),?_⟩
   clear HK K
   try simp only [Act.put]
   refine bDc (by kernel_rfl) ?_
   go_wp2
   go_meet
   case rel=>
    have z2:=ZD.out
    have z3:=HB8.out
    have z5:=GB5.out.size
    have z6:=HS6.out
    exact ⟨B8,a8,c8,_,rfl,rfl,rc,((HO5.out.grow G6.out).kept gc (off_of fun q hq=>by have:=HO5.out.lt q hq;omega)).base (by omega),by omega,(GA6.out).grown gc (fun q hq=>by have:=Option.some.inj hq;omega)⟩
  ·intro K HK
   try simp only [lzA,lzB,lzC]
   go_simp
   obtain ⟨w6,hw6⟩:∃ y:World,y = wd.alloc (.cells #[.int .i64 0,.slice none 0 0,.bool false,.slice none 0 0] 136):=⟨_,rfl⟩
   obtain ⟨B8,hB8⟩:∃ B,B = wd.heap.size:=⟨_,rfl⟩
   rw [← hw6,← hB8]
   have R8:Hid (w6.heap[B8]? = some (.cells #[.int .i64 0,.slice none 0 0,.bool false,.slice none 0 0] 136 (0,0))):=Lib.hid (by rw [hw6,hB8];exact row_new _ _)
   have G6:Hid (Grow wd w6):=Lib.hid (by rw [hw6];exact (Grow.refl _).alloc _)
   have HB8:=Lib.hid hB8
   have HS6:Hid (w6.heap.size = B8 + 1):=Lib.hid (by rw [hw6,hB8];simp)
   have GA6:=Lib.hid (Grow.trans GD G6.out)
   clear hw6 hB8
   refine HK.out _ _ ⟨.inr (HS.out _ GA6.out),?_⟩
   clear HK K
   try simp only [Act.put,lzA,lzB,lzC,lzD,lzE,lzF]
   refine bOc 7 (by kernel_rfl) rfl ?_
   intro K HK
   try simp only [lzA,lzB,lzC]
   go_simp
   go_at_call 122
   refine (HCL.out _ (G1.out.trans (HRR.out.grow.trans GA6.out))).mono ?_
   rintro e w5 ⟨v5,rfl,ho5,hb5⟩
   obtain ⟨a8,c8,rfl⟩:=owns_form ho5
   have HO5:=Lib.hid (OwnC.pts (c:=fun _=>none) ho5 HPO.out)
   have GB5:=Lib.hid hb5
   have G5:=Lib.hid (Grow.trans GA6.out hb5)
   clear ho5 hb5
   have R85:=Lib.hid (row_grow R8.out GB5.out)
   refine HK.out _ _ ⟨.inr (HS.out _ G5.out),?_⟩
   clear HK K
   try simp only [Act.put,lzA,lzB,lzC,lzD,lzE,lzF]
   refine bLc [8] 13 (by kernel_rfl) (fun _ _ _ _ _ h=>h) (HS.out _ G5.out) ?_
   repeat (refine tNc (v:=?_) rfl (by rfl) ?_ ?_;rotate_left;(· (intro w' hSw;(try dsimp only at hSw);obtain ⟨hs0,hs1⟩:=hSw;go_simp <;> with_reducible rfl));try simp only [Act.put,lzA,lzB,lzC,lzD,lzE,lzF])
   refine tEc ?_
   refine bOc 10 (by kernel_rfl) rfl ?_
   intro K HK
   refine wanted_go rfl ?_
   try simp only [lzA,lzB,lzC]
   refine wp_store_row (.tmp 8) (.tmp 29) rfl rfl rfl R85.out info_opn4 rfl rfl ?_
   intro wc rc gc
   refine HK.out _ _ ⟨.inl (by decide),?_⟩
   clear HK K
   try simp only [Act.put]
   refine bDc (by kernel_rfl) ?_
   go_wp2
   go_meet
   case rel=>
    have z2:=ZD.out
    have z3:=HB8.out
    have z5:=GB5.out.size
    have z6:=HS6.out
    exact ⟨B8,a8,c8,_,rfl,rfl,rc,(HO5.out.kept gc (off_of fun q hq=>by have:=HO5.out.lt q hq;omega)).base (by omega),by omega,(G5.out).grown gc (fun q hq=>by have:=Option.some.inj hq;omega)⟩
 case rest=>
 obtain ⟨B8,a8,c8,dd,hdd,rfl,r8,o8,hB8,gx⟩:=hcut
 obtain ⟨w4,rfl⟩:∃ y:World,y = wc:=⟨_,rfl⟩
 rw [← hdd] at HDI
 have HDD:=Lib.hid hdd
 have R8:=Lib.hid r8
 have O8:=Lib.hid o8
 have HB8:=Lib.hid hB8
 have GX:=Lib.hid gx
 have HR4:=Lib.hid (HRR.out.later gx)
 have R74:=Lib.hid (row_grow R7.out gx)
 have HL7:=Lib.hid (Array.getElem?_eq_some_iff.1 R7.out).1
 clear HS hdd r8 o8 hB8 gx hw1 hw2
 have HS:Hid (∀ W:World,W.heap[B7]? = w4.heap[B7]?→W.heap[B8]? = w4.heap[B8]?→W.cell? ⟨B7,2,none⟩ = some (.int .i64 h.next)∧W.cell? ⟨B8,0,none⟩ = some (.int .i64 dd)∧W.cell? ⟨B8,1,none⟩ = some (.slice a8 P.length c8)∧W.cell? ⟨B8,2,none⟩ = some (.bool false)∧W.cell? ⟨B8,3,none⟩ = some (.slice none 0 0)):=fun W e7 e8=>by
  obtain ⟨-,-,j2,-⟩:=cells4 (e7.trans R74.out)
  obtain ⟨k0,k1,k2,k3⟩:=cells4 (e8.trans R8.out)
  exact ⟨j2,k0,k1,k2,k3⟩
 have HSG:Hid (∀ W,Grow w4 W→W.cell? ⟨B7,2,none⟩ = some (.int .i64 h.next)∧W.cell? ⟨B8,0,none⟩ = some (.int .i64 dd)∧W.cell? ⟨B8,1,none⟩ = some (.slice a8 P.length c8)∧W.cell? ⟨B8,2,none⟩ = some (.bool false)∧W.cell? ⟨B8,3,none⟩ = some (.slice none 0 0)):=fun W hW=>
  HS.out W (hW.block _ (Array.getElem?_eq_some_iff.1 R74.out).1) (hW.block _ (Array.getElem?_eq_some_iff.1 R8.out).1)
 go_upto_region 5 with fail
 go_cut [] from 30 (fun wc=>∃ a9 c9,wc.heap[B7]? = some (.cells #[.slice ag h.log.length cg,.int .i64 h.boot,.int .i64 (h.next + 1),.slice a9 (L.length + 1) c9] 57 (0,0))∧HR wz wc B7 (.slice ag h.log.length cg) (.slice a9 (L.length + 1) c9) h.log (L ++ [((⟨dd,P,false,[]⟩:Opn),.slice none 0 0)])∧OpnAt wc B8 0 (⟨dd,P,false,[]⟩:Opn) a8 c8 none 0)
 case first=>
  refine bSc (fun w'=>w'.cell? ⟨B7,2,none⟩ = some (.int .i64 h.next)∧w'.cell? ⟨B8,0,none⟩ = some (.int .i64 dd)∧w'.cell? ⟨B8,1,none⟩ = some (.slice a8 P.length c8)∧w'.cell? ⟨B8,2,none⟩ = some (.bool false)∧w'.cell? ⟨B8,3,none⟩ = some (.slice none 0 0)) [11] (by kernel_rfl) ?_
  intro wd GD zD
  have ZD:=Lib.hid zD
  clear zD
  refine bLc [0,2,5,6,7] 14 (by kernel_rfl) (fun _ _ _ _ _ h=>h) (HSG.out _ GD) ?_
  repeat (refine tNc (v:=?_) rfl (by rfl) ?_ ?_;rotate_left;(· (intro w' hSw;(try dsimp only at hSw);obtain ⟨hs0,hs1,hs2,hs3,hs4⟩:=hSw;go_simp <;> with_reducible rfl));try simp only [Act.put,lzA,lzB,lzC,lzD,lzE,lzF])
  refine tEc ?_
  refine bPc 1 3 (by kernel_rfl) rfl rfl ?_ ?_
  ·intro K HK
   try simp only [lzA,lzB,lzC]
   obtain ⟨-,-,-,d3⟩:=cells4 (row_grow R74.out GD)
   have z7:B7 < wd.heap.size:=World.block_lt_of_cell? _ _ d3
   go_simp
   clear d3 z7
   refine HK.out _ _ ⟨.inr (HSG.out _ GD),?_⟩
   clear HK K
   try simp only [Act.put,lzA,lzB,lzC,lzD,lzE,lzF]
   refine bOc 3 (by kernel_rfl) rfl ?_
   intro K HK
   try simp only [lzA,lzB,lzC]
   go_simp
   obtain ⟨w6,hw6⟩:∃ y:World,y = wd.alloc (.cells #[.int .i64 dd,.slice a8 P.length c8,.bool false,.slice none 0 0] 136):=⟨_,rfl⟩
   have G6:Hid (Grow w4 w6):=Lib.hid (by rw [hw6];exact GD.alloc _)
   have HAH:=Lib.hid (HR4.out.ahead (r:=none) G6.out (fun q hq=>by cases hq))
   have HSR:Hid (Src Ty.oph (fr wz w6 (none :: hro B7 (.slice ag h.log.length cg) (.slice ao L.length co) L)) w6 (.slice (some ⟨wd.heap.size,0,none⟩) 1 1) [((⟨dd,P,false,[]⟩:Opn),.slice none 0 0)]):=Lib.hid (by
    have z2:=HRR.out.grow.size
    have hsl:Sl Ty.pt (fr wz w6 (none :: hro B7 (.slice ag h.log.length cg) (.slice ao L.length co) L)) (.slice a8 P.length c8) P:=(O8.out.grow G6.out).slb (by decide) (fun a v e=>by cases e) fun a ha=>fr_new (by have:=O8.out.lt _ ha;omega) (fun hm=>by
     rcases List.mem_cons.1 hm with e | hm
     ·cases e
     ·have:=(HRR.out.ok.lt _ hm).2;have:=O8.out.lt _ ha;omega)
    rw [hw6] at hsl ⊢
    exact Src.of_new (T:=Ty.oph) (x:=((⟨dd,P,false,[]⟩:Opn),.slice none 0 0)) (cs:=#[.int .i64 dd,.slice a8 P.length c8,.bool false,.slice none 0 0]) ⟨_,rfl,HDI.out,hsl,rfl⟩ _ _ rfl)
   rw [← hw6]
   clear hw6
   refine HK.out _ _ ⟨.inr (HSG.out _ G6.out),?_⟩
   clear HK K
   try simp only [Act.put,lzA,lzB,lzC,lzD,lzE,lzF]
   refine bOc 4 (by kernel_rfl) rfl ?_
   intro K HK
   refine wanted_go rfl ?_
   try simp only [lzA,lzB,lzC]
   refine wp_appc (c:=fr wz w6 (none :: hro B7 (.slice ag h.log.length cg) (.slice ao L.length co) L)) (base:=wz.heap.size) (l:=L) (m:=[((⟨dd,P,false,[]⟩:Opn),.slice none 0 0)]) (v:=.slice ao L.length co) ei_opn rfl one_Toph (by decide) (.tmp 31) (.tmp 33) rfl rfl ((HR4.out.opn.mono HAH.out.2).grow G6.out) rfl HSR.out (by have:=HL12.out;have:=HLN.out;simp;omega) (by have:=HR4.out.grow.size;have:=G6.out.size;omega) ?_
   intro a9 c9 w7 ho7 hg7 hb7
   have NB7:Hid (some B7 ≠ (Value.slice ao L.length co).ownBlock):=Lib.hid (by rcases HR4.out.ok.off (i:=0) (j:=2) rfl rfl (by decide) with e | e;exact absurd e (by simp);exact e)
   have NB8:Hid (some B8 ≠ (Value.slice ao L.length co).ownBlock):=Lib.hid (fun e=>by have:=(HRR.out.opn.lt _ e.symm).2;have:=HB8.out;omega)
   have HR7:=Lib.hid (HR4.out.snoc (vo':=.slice a9 (L.length + 1) c9) (x:=((⟨dd,P,false,[]⟩:Opn),.slice none 0 0)) G6.out (OwnC.nil _ _ _ _ _) hg7 hb7 ho7)
   have R77:=Lib.hid (row_by (row_grow R74.out G6.out) hg7 NB7.out)
   have R87:=Lib.hid (row_by (row_grow R8.out G6.out) hg7 NB8.out)
   have O87:=Lib.hid ((O8.out.grow G6.out).kept hg7 (by cases e:(Value.slice a8 P.length c8).ownBlock with | none=>exact .inl rfl | some q=>exact .inr fun e2=>by have:=(O8.out.lt q e).1;have:=(HRR.out.opn.lt q e2.symm).2;omega))
   clear ho7 hg7 hb7
   refine HK.out _ _ ⟨.inr (HS.out _ (R77.out.trans R74.out.symm) (R87.out.trans R8.out.symm)),?_⟩
   clear HK K
   try simp only [Act.put,lzD,lzE,lzF]
   refine bLc [8] 14 (by kernel_rfl) (fun _ _ _ _ _ h=>h) (HS.out _ (R77.out.trans R74.out.symm) (R87.out.trans R8.out.symm)) ?_
   repeat (refine tNc (v:=?_) rfl (by rfl) ?_ ?_;rotate_left;(· (intro w' hSw;(try dsimp only at hSw);obtain ⟨hs0,hs1,hs2,hs3,hs4⟩:=hSw;go_simp <;> with_reducible rfl));try simp only [Act.put,lzA,lzB,lzC,lzD,lzE,lzF])
   refine tEc ?_
   refine bOc 9 (by kernel_rfl) rfl ?_
   intro K HK
   refine wanted_go rfl ?_
   try simp only [lzA,lzB,lzC]
   refine wp_store_cell (.tmp 38) (.tmp 34) (v:=.slice a9 (L.length + 1) c9) (new:=#[.slice ag h.log.length cg,.int .i64 h.boot,.int .i64 h.next,.slice a9 (L.length + 1) c9]) rfl rfl (by rfl) (by rfl) R77.out info_opns (by simp) (by rfl) (by rfl) ?_
   intro w8 r8 g8
   have HR8:=Lib.hid (HR7.out.box g8)
   have R78:=Lib.hid r8
   have NE78:Hid (B8 ≠ B7):=Lib.hid (by have:=HB8.out;have:=HL7.out;omega)
   have R88:=Lib.hid (row_by R87.out g8 (fun e=>NE78.out (Option.some.inj e)))
   have O88:=Lib.hid (O87.out.kept g8 (off_of fun q hq=>by have:=(O8.out.lt q hq).1;have:=HL7.out;omega))
   clear r8 g8
   refine HK.out _ _ ⟨.inr (by obtain ⟨-,-,j2,-⟩:=cells4 R78.out;obtain ⟨k0,k1,k2,k3⟩:=cells4 R88.out;exact ⟨j2,k0,k1,k2,k3⟩),?_⟩
   clear HK K
   try simp only [Act.put]
   refine bLc [10] 14 (by kernel_rfl) (fun _ _ _ _ _ h=>h) (by obtain ⟨-,-,j2,-⟩:=cells4 R78.out;obtain ⟨k0,k1,k2,k3⟩:=cells4 R88.out;exact ⟨j2,k0,k1,k2,k3⟩) ?_
   repeat (refine tNc (v:=?_) rfl (by rfl) ?_ ?_;rotate_left;(· (intro w' hSw;(try dsimp only at hSw);obtain ⟨hs0,hs1,hs2,hs3,hs4⟩:=hSw;go_simp <;> with_reducible rfl));try simp only [Act.put,lzA,lzB,lzC,lzD,lzE,lzF])
   refine tEc ?_
   refine bOc 11 (by kernel_rfl) rfl ?_
   intro K HK
   refine wanted_go rfl ?_
   try simp only [lzA,lzB,lzC]
   refine wp_store_cell (.tmp 39) (.tmp 37) (v:=.int .i64 (h.next + 1)) (new:=#[.slice ag h.log.length cg,.int .i64 h.boot,.int .i64 (h.next + 1),.slice a9 (L.length + 1) c9]) rfl rfl (by rfl) (by rfl) R78.out info_int1 (by simp) (by rfl) (by rfl) ?_
   intro w9 r9 g9
   refine HK.out _ _ ⟨.inl (by decide),?_⟩
   clear HK K
   try simp only [Act.put]
   refine bDc (by kernel_rfl) ?_
   go_wp2
   go_meet
   case rel=>
    obtain ⟨k0,k1,k2,k3⟩:=cells4 (row_by R88.out g9 (fun e=>NE78.out (Option.some.inj e)))
    exact ⟨a9,c9,r9,HR8.out.box g9,⟨k0,k1,k2,k3,HDI.out,(O88.out.kept g9 (off_of fun q hq=>by have:=(O8.out.lt q hq).1;have:=HL7.out;omega)).slc (by decide) (fun _ _ e=>by cases e) fun _ _=>rfl,Sl.nil _ _⟩⟩
  ·intro K HK
   try simp only [lzA,lzB,lzC]
   go_simp
   obtain ⟨w6,hw6⟩:∃ y:World,y = wd.alloc (.cells #[.int .i64 dd,.slice a8 P.length c8,.bool false,.slice none 0 0] 136):=⟨_,rfl⟩
   have G6:Hid (Grow w4 w6):=Lib.hid (by rw [hw6];exact GD.alloc _)
   have HAH:=Lib.hid (HR4.out.ahead (r:=none) G6.out (fun q hq=>by cases hq))
   have HSR:Hid (Src Ty.oph (fr wz w6 (none :: hro B7 (.slice ag h.log.length cg) (.slice ao L.length co) L)) w6 (.slice (some ⟨wd.heap.size,0,none⟩) 1 1) [((⟨dd,P,false,[]⟩:Opn),.slice none 0 0)]):=Lib.hid (by
    have z2:=HRR.out.grow.size
    have hsl:Sl Ty.pt (fr wz w6 (none :: hro B7 (.slice ag h.log.length cg) (.slice ao L.length co) L)) (.slice a8 P.length c8) P:=(O8.out.grow G6.out).slb (by decide) (fun a v e=>by cases e) fun a ha=>fr_new (by have:=O8.out.lt _ ha;omega) (fun hm=>by
     rcases List.mem_cons.1 hm with e | hm
     ·cases e
     ·have:=(HRR.out.ok.lt _ hm).2;have:=O8.out.lt _ ha;omega)
    rw [hw6] at hsl ⊢
    exact Src.of_new (T:=Ty.oph) (x:=((⟨dd,P,false,[]⟩:Opn),.slice none 0 0)) (cs:=#[.int .i64 dd,.slice a8 P.length c8,.bool false,.slice none 0 0]) ⟨_,rfl,HDI.out,hsl,rfl⟩ _ _ rfl)
   rw [← hw6]
   clear hw6
   refine HK.out _ _ ⟨.inr (HSG.out _ G6.out),?_⟩
   clear HK K
   try simp only [Act.put,lzA,lzB,lzC,lzD,lzE,lzF]
   refine bOc 1 (by kernel_rfl) rfl ?_
   intro K HK
   try simp only [lzA,lzB,lzC]
   obtain ⟨-,-,-,d3⟩:=cells4 (row_grow R74.out G6.out)
   have z7:B7 < w6.heap.size:=World.block_lt_of_cell? _ _ d3
   go_simp
   clear d3 z7
   refine HK.out _ _ ⟨.inr (HSG.out _ G6.out),?_⟩
   clear HK K
   try simp only [Act.put,lzA,lzB,lzC,lzD,lzE,lzF]
   refine bOc 4 (by kernel_rfl) rfl ?_
   intro K HK
   refine wanted_go rfl ?_
   try simp only [lzA,lzB,lzC]
   refine wp_appc (c:=fr wz w6 (none :: hro B7 (.slice ag h.log.length cg) (.slice ao L.length co) L)) (base:=wz.heap.size) (l:=L) (m:=[((⟨dd,P,false,[]⟩:Opn),.slice none 0 0)]) (v:=.slice ao L.length co) ei_opn rfl one_Toph (by decide) (.tmp 31) (.tmp 33) rfl rfl ((HR4.out.opn.mono HAH.out.2).grow G6.out) rfl HSR.out (by have:=HL12.out;have:=HLN.out;simp;omega) (by have:=HR4.out.grow.size;have:=G6.out.size;omega) ?_
   intro a9 c9 w7 ho7 hg7 hb7
   have NB7:Hid (some B7 ≠ (Value.slice ao L.length co).ownBlock):=Lib.hid (by rcases HR4.out.ok.off (i:=0) (j:=2) rfl rfl (by decide) with e | e;exact absurd e (by simp);exact e)
   have NB8:Hid (some B8 ≠ (Value.slice ao L.length co).ownBlock):=Lib.hid (fun e=>by have:=(HRR.out.opn.lt _ e.symm).2;have:=HB8.out;omega)
   have HR7:=Lib.hid (HR4.out.snoc (vo':=.slice a9 (L.length + 1) c9) (x:=((⟨dd,P,false,[]⟩:Opn),.slice none 0 0)) G6.out (OwnC.nil _ _ _ _ _) hg7 hb7 ho7)
   have R77:=Lib.hid (row_by (row_grow R74.out G6.out) hg7 NB7.out)
   have R87:=Lib.hid (row_by (row_grow R8.out G6.out) hg7 NB8.out)
   have O87:=Lib.hid ((O8.out.grow G6.out).kept hg7 (by cases e:(Value.slice a8 P.length c8).ownBlock with | none=>exact .inl rfl | some q=>exact .inr fun e2=>by have:=(O8.out.lt q e).1;have:=(HRR.out.opn.lt q e2.symm).2;omega))
   clear ho7 hg7 hb7
   refine HK.out _ _ ⟨.inr (HS.out _ (R77.out.trans R74.out.symm) (R87.out.trans R8.out.symm)),?_⟩
   clear HK K
   try simp only [Act.put,lzD,lzE,lzF]
   refine bLc [8] 14 (by kernel_rfl) (fun _ _ _ _ _ h=>h) (HS.out _ (R77.out.trans R74.out.symm) (R87.out.trans R8.out.symm)) ?_
   repeat (refine tNc (v:=?_) rfl (by rfl) ?_ ?_;rotate_left;(· (intro w' hSw;(try dsimp only at hSw);obtain ⟨hs0,hs1,hs2,hs3,hs4⟩:=hSw;go_simp <;> with_reducible rfl));try simp only [Act.put,lzA,lzB,lzC,lzD,lzE,lzF])
   refine tEc ?_
   refine bOc 9 (by kernel_rfl) rfl ?_
   intro K HK
   refine wanted_go rfl ?_
   try simp only [lzA,lzB,lzC]
   refine wp_store_cell (.tmp 38) (.tmp 34) (v:=.slice a9 (L.length + 1) c9) (new:=#[.slice ag h.log.length cg,.int .i64 h.boot,.int .i64 h.next,.slice a9 (L.length + 1) c9]) rfl rfl (by rfl) (by rfl) R77.out info_opns (by simp) (by rfl) (by rfl) ?_
   intro w8 r8 g8
   have HR8:=Lib.hid (HR7.out.box g8)
   have R78:=Lib.hid r8
   have NE78:Hid (B8 ≠ B7):=Lib.hid (by have:=HB8.out;have:=HL7.out;omega)
   have R88:=Lib.hid (row_by R87.out g8 (fun e=>NE78.out (Option.some.inj e)))
   have O88:=Lib.hid (O87.out.kept g8 (off_of fun q hq=>by have:=(O8.out.lt q hq).1;have:=HL7.out;omega))
   clear r8 g8
   refine HK.out _ _ ⟨.inr (by obtain ⟨-,-,j2,-⟩:=cells4 R78.out;obtain ⟨k0,k1,k2,k3⟩:=cells4 R88.out;exact ⟨j2,k0,k1,k2,k3⟩),?_⟩
   clear HK K
   try simp only [Act.put]
   refine bLc [10] 14 (by kernel_rfl) (fun _ _ _ _ _ h=>h) (by obtain ⟨-,-,j2,-⟩:=cells4 R78.out;obtain ⟨k0,k1,k2,k3⟩:=cells4 R88.out;exact ⟨j2,k0,k1,k2,k3⟩) ?_
   repeat (refine tNc (v:=?_) rfl (by rfl) ?_ ?_;rotate_left;(· (intro w' hSw;(try dsimp only at hSw);obtain ⟨hs0,hs1,hs2,hs3,hs4⟩:=hSw;go_simp <;> with_reducible rfl));try simp only [Act.put,lzA,lzB,lzC,lzD,lzE,lzF])
   refine tEc ?_
   refine bOc 11 (by kernel_rfl) rfl ?_
   intro K HK
   refine wanted_go rfl ?_
   try simp only [lzA,lzB,lzC]
   refine wp_store_cell (.tmp 39) (.tmp 37) (v:=.int .i64 (h.next + 1)) (new:=#[.slice ag h.log.length cg,.int .i64 h.boot,.int .i64 (h.next + 1),.slice a9 (L.length + 1) c9]) rfl rfl (by rfl) (by rfl) R78.out info_int1 (by simp) (by rfl) (by rfl) ?_
   intro w9 r9 g9
   refine HK.out _ _ ⟨.inl (by decide),?_⟩
   clear HK K
   try simp only [Act.put]
   refine bDc (by kernel_rfl) ?_
   go_wp2
   go_meet
   case rel=>
    obtain ⟨k0,k1,k2,k3⟩:=cells4 (row_by R88.out g9 (fun e=>NE78.out (Option.some.inj e)))
    exact ⟨a9,c9,r9,HR8.out.box g9,⟨k0,k1,k2,k3,HDI.out,(O88.out.kept g9 (off_of fun q hq=>by have:=(O8.out.lt q hq).1;have:=HL7.out;omega)).slc (by decide) (fun _ _ e=>by cases e) fun _ _=>rfl,Sl.nil _ _⟩⟩
 case rest=>
 obtain ⟨a9,c9,r9,hr9,hat⟩:=hcut
 obtain ⟨w9,rfl⟩:∃ y:World,y = wc:=⟨_,rfl⟩
 have R9:=Lib.hid r9
 have HR9:=Lib.hid hr9
 have HAT:=Lib.hid hat
 have R29:=Lib.hid (row_grow R2.out hr9.grow)
 clear HS HSG r9 hr9 hat
 have HS:Hid (∀ W,Grow w9 W→W.cell? ⟨B7,0,none⟩ = some (.slice ag h.log.length cg)∧W.cell? ⟨B7,1,none⟩ = some (.int .i64 h.boot)∧W.cell? ⟨B7,2,none⟩ = some (.int .i64 (h.next + 1))∧W.cell? ⟨B7,3,none⟩ = some (.slice a9 (L.length + 1) c9)):=fun W hW=>cells4 (row_grow R9.out hW)
 go_upto_region 6 with fail
 refine bSc (fun w'=>w'.cell? ⟨B7,0,none⟩ = some (.slice ag h.log.length cg)∧w'.cell? ⟨B7,1,none⟩ = some (.int .i64 h.boot)∧w'.cell? ⟨B7,2,none⟩ = some (.int .i64 (h.next + 1))∧w'.cell? ⟨B7,3,none⟩ = some (.slice a9 (L.length + 1) c9)) [2,3,4] (by kernel_rfl) ?_
 intro wd GD zD
 have ZD:=Lib.hid zD
 clear zD
 refine bLc [0] 7 (by kernel_rfl) (fun _ _ _ _ _ h=>h) (HS.out _ GD) ?_
 repeat (refine tNc (v:=?_) rfl (by rfl) ?_ ?_;rotate_left;(· (intro w' hSw;(try dsimp only at hSw);obtain ⟨hs0,hs1,hs2,hs3⟩:=hSw;go_simp <;> with_reducible rfl));try simp only [Act.put,lzA,lzC,lzD,lzE,lzF])
 refine tEc ?_
 refine bOc 1 (by kernel_rfl) rfl ?_
 intro K HK
 try simp only [lzA,lzB,lzC]
 go_simp
 go_at_call 154
 refine (head_asks (o:=(⟨dd,P,false,[]⟩:Opn)) _ (HAT.out.grow GD) HPR.out).mono ?_
 rintro e w10 ⟨v10,rfl,ho10,hb10⟩
 obtain ⟨a10,c10,rfl⟩:=ho10.form
 have HM:=Lib.hid (OwnC.ovn (by decide) ho10)
 have GM:=Lib.hid hb10
 have GB:=Lib.hid (Grow.trans GD hb10)
 clear ho10 hb10
 generalize hms:asksE (⟨dd,P,false,[]⟩:Opn) = ms at *
 have HMS:=Lib.hid hms
 clear hms
 refine HK.out _ _ ⟨.inr (HS.out _ GB.out),?_⟩
 clear HK K
 try simp only [Act.put,lzA,lzB,lzC,lzD,lzE,lzF]
 refine bOc 2 (by kernel_rfl) rfl ?_
 intro K HK
 refine wanted_go rfl ?_
 try simp only [lzA,lzB,lzC]
 refine wp_store_row (.tmp 4) (.tmp 40) rfl rfl rfl (row_grow R29.out GB.out) info_hd rfl rfl ?_
 intro w7 r7 g7
 obtain ⟨p0,p1,p2,p3⟩:=cells4 r7
 refine HK.out _ _ ⟨.inl (by decide),?_⟩
 clear HK K
 try simp only [Act.put]
 refine bOc 3 (by kernel_rfl) rfl ?_
 intro K HK
 try simp only [lzA,lzB,lzC]
 go_simp
 refine HK.out _ _ ⟨.inl (by decide),?_⟩
 clear HK K
 try simp only [Act.put,lzA,lzB,lzC,lzD,lzE,lzF]
 refine bOc 4 (by kernel_rfl) rfl ?_
 intro K HK
 try simp only [lzA,lzB,lzC]
 go_simp
 refine HK.out _ _ ⟨.inl (by decide),?_⟩
 clear HK K
 try simp only [Act.put,lzA,lzB,lzC,lzD,lzE,lzF]
 refine bDc (by kernel_rfl) ?_
 go_wp2
 refine bodyPost_ret (v:=.tuple #[.agg #[.slice ag h.log.length cg,.int .i64 h.boot,.int .i64 (h.next + 1),.slice a9 (L.length + 1) c9],.slice a10 ms.length c10,.int .i64 0]) (by simp [results,Try.results110,go_sem,p0,p1,p2,p3]) rfl ?_
 have z:=HZ.out
 have hx:=(HR9.out.later GB.out).past G1.out g7 (by omega)
 have hy:=hx.of HIB.out.1 HNI.out
 rw [List.map_append,HL.out] at hy
 rw [HE1.out,HE2.out,HE3.out]
 have e9:newO h P = (⟨dd,P,false,[]⟩:Opn):=by unfold newO;rw [HDD.out]
 rw [e9,HMS.out]
 have hgm:=HR9.out.grow.size;have:=GD.size
 exact ⟨_,_,rfl,by simpa using hy,HM.out.mono (ovn_set (G1.out.trans (HR9.out.grow.trans GD)) (by omega) g7 GM.out),hx.grow⟩
theorem fr_to_ov {w0 w W wf:World} {X:List (Option Nat)} (h:w0.heap.size ≤ w.heap.size) (hb:∀ k,k < W.heap.size→w.heap.size ≤ k→some k ∉ X→wf.heap[k]? = W.heap[k]?):Sub (fr w W X) (ov (fun _=>none) w0 wf):=fun a v e=>by
 have hlt:=World.block_lt_of_cell? W a (fr_sub _ _ _ _ _ e)
 unfold fr at e
 split at e
 ·cases e
 ·rename_i hn
  have h1:¬ a.block < w.heap.size:=fun hx=>hn (.inl hx)
  rw [ov_new (by omega),World.cell?_of_block (hb a.block hlt (by omega) (fun hx=>hn (.inr hx)))]
  exact e
section
variable {w W:World} {B:Nat} {vl vo:Value} {lg:List Rc} {L:List OpH}
theorem HR.sub2 (_:HR w W B vl vo lg L):Sub (fr w W (hro B vl vo L)) (fr w W [some B,vo.ownBlock]):=fr_step fun k _ _ hx=>⟨rfl,fun hm=>hx (by
 simp only [List.mem_cons,List.not_mem_nil,or_false] at hm
 unfold hro
 simp only [List.mem_cons]
 rcases hm with h | h
 ·exact .inl h
 ·exact .inr (.inr (.inl h)))⟩
theorem HR.no2 (b:HR w W B vl vo lg L) {i:Nat} {v:Value} (hi:(hro B vl vo L)[i]? = some v.ownBlock) (h0:i ≠ 0) (h2:i ≠ 2) {q:Nat} (hq:v.ownBlock = some q):some q ∉ [some B,vo.ownBlock]:=by
 simp only [List.mem_cons,List.not_mem_nil,or_false,not_or]
 rw [hq] at hi
 refine ⟨fun e=>?_,fun e=>?_⟩
 ·rcases b.ok.off hi (j:=0) rfl h0 with h | h
  ·cases h
  ·exact h e
 ·rcases b.ok.off hi (j:=2) rfl h2 with h | h
  ·cases h
  ·exact h e
theorem HR.logC (b:HR w W B vl vo lg L):Sl Ty.rc (fr w W [some B,vo.ownBlock]) vl lg:=
 b.log.slb (by decide) b.sub2 fun a ha=>fr_new (b.log.lt _ ha).1 (b.no2 (i:=1) rfl (by decide) (by decide) ha)
theorem HR.opnC (b:HR w W B vl vo lg L):OwnC Ty.opn (fr w W [some B,vo.ownBlock]) W w.heap.size 136 vo (L.map (·.1)):=
 b.opn.of_oph b.sub2 fun x hx=>by
  obtain ⟨i,hi,rfl⟩:=List.mem_iff_getElem.1 hx
  exact (b.heard _ hx).slb (by decide) (fun a v e=>by cases e) fun a ha=>fr_new ((b.heard _ hx).lt _ ha).1 (b.no2 (HR.at_heard (List.getElem?_eq_getElem hi)) (by omega) (by omega) ha)
end
theorem quit_tells (w:World) (row:Option Nat) (l:List Opn):TellsG Try.prog Ty.opn aggOf w row 152 #[] l (fun o=>!o.dec) where
 ent:=fun args w=>by kernel_rfl
 say:=fun wx cs x hg _ hR=>by
  obtain ⟨vp,vh,rfl,-,hp,hh⟩:=hR
  obtain ⟨ap,cp,rfl,-⟩:=hp
  obtain ⟨ah,ch,rfl,-⟩:=hh
  show Calls _ _ #[.agg #[.int .i64 x.deed,.slice ap x.parts.length cp,.bool x.dec,.slice ah x.heard.length ch]] _ _
  go_enter Try.func152,Try.ntmps152
  go_wp2
  go_ret
  exact ⟨rfl,(by repeat (first | with_reducible assumption | with_reducible exact Grow.refl _ | with_reducible apply Grow.drewN | with_reducible apply Grow.drew | with_reducible apply Grow.alloc | (refine Grow.setCell ?_ (by simp;done) _)))⟩
set_option maxRecDepth 100000 in
set_option maxHeartbeats 4000000 in
theorem whead_quit {v:Value} {h:Hd} (w:World) (hv:Of Ty.hd w.cell? v h) (hk:HdOk h) (hlp:∀ r ∈ h.log,r.parts.length * 24 ≤ 140737488355328) (hr:∀ o ∈ h.opn,PtsR o.parts) :
  Calls Try.prog 106 #[v] w fun e w'=>∃ v1 v2,e = .returned (.tuple #[v1,v2])∧Of Ty.hd (ov (fun _=>none) w w') v1 (quitH h)∧Sl Ty.ms (ov (fun _=>none) w w') v2 (quitM h)∧Grow w w':=by
 obtain ⟨al,cl,ar,cr,rfl⟩:=hv.hd_form
 obtain ⟨ar',cr',he,h1,h2,-,hel⟩:=(Of.hd_log hv).2
 obtain ⟨rfl,rfl⟩:ar = ar'∧cr = cr':=by simpa using he
 unfold maxLen at h2
 have HIB:Hid (I64 h.boot∧I64 h.next):=Lib.hid (by obtain ⟨cs,he,_,_,rfl,_,h1,h2,_⟩:=hv;exact ⟨h1,h2⟩)
 have HOW:=Lib.hid (fun (W:World) (hW:Grow w W)=>head_own W (hv.mono hW.sub) hk hlp)
 have HPR:=Lib.hid hr
 have h12:=hk.opn
 clear hk hv hlp he hr
 obtain ⟨wa,hwa⟩:∃ y:World,y = w.alloc (.cells #[.slice al h.log.length cl,.int .i64 h.boot,.int .i64 h.next,.slice ar h.opn.length cr] 57):=⟨_,rfl⟩
 obtain ⟨wz,hwz⟩:∃ y:World,y = wa.alloc (.cells #[.slice none 0 0,.int .i64 0,.int .i64 0,.slice none 0 0] 57):=⟨_,rfl⟩
 have hsz:wa.heap.size = w.heap.size + 1:=by rw [hwa];simp
 have R1:Hid (wz.heap[w.heap.size]? = some (.cells #[.slice al h.log.length cl,.int .i64 h.boot,.int .i64 h.next,.slice ar h.opn.length cr] 57 (0,0))):=Lib.hid (by rw [hwz,hwa];exact heap_later (row_new _ _) _)
 have R2:Hid (wz.heap[w.heap.size + 1]? = some (.cells #[.slice none 0 0,.int .i64 0,.int .i64 0,.slice none 0 0] 57 (0,0))):=Lib.hid (by rw [hwz,← hsz];exact row_new _ _)
 have G1:Hid (Grow w wz):=Lib.hid (by rw [hwz,hwa];exact ((Grow.refl w).alloc _).alloc _)
 have HZ:Hid (wz.heap.size = w.heap.size + 2):=Lib.hid (by rw [hwz,hwa];simp)
 go_enter Try.func106,Try.ntmps106
 go_upto_region 1 with fail
 rw [← hwa]
 try rw [hsz]
 rw [← hwz]
 clear hwa hwz hsz
 obtain ⟨c0,c1,c2,c3⟩:=cells4 R1.out
 have z1:w.heap.size < wz.heap.size:=(Array.getElem?_eq_some_iff.1 R1.out).1
 go_wp2_with fail
 refine (HOW.out _ G1.out).mono ?_
 rintro e w1 ⟨vl,vo,B0,L,rfl,hl,hr0⟩
 obtain ⟨ag,cg,ao,co,rfl,rfl⟩:=hr0.form
 have HL:=Lib.hid hl
 have HR0:=Lib.hid hr0
 clear hr0 hl c0 c1 c2 c3 z1
 obtain ⟨w2,hw2⟩:∃ y:World,y = w1.alloc (.cells #[.slice ag h.log.length cg,.int .i64 h.boot,.int .i64 h.next,.slice ao L.length co] 57):=⟨_,rfl⟩
 obtain ⟨B7,hB7⟩:∃ y,y = w1.heap.size:=⟨_,rfl⟩
 have R7:Hid (w2.heap[B7]? = some (.cells #[.slice ag h.log.length cg,.int .i64 h.boot,.int .i64 h.next,.slice ao L.length co] 57 (0,0))):=Lib.hid (by rw [hw2,hB7];exact row_new _ _)
 have HRR:Hid (HR wz w2 B7 (.slice ag h.log.length cg) (.slice ao L.length co) h.log L):=Lib.hid (HR0.out.rebox (by rw [hw2];exact (Grow.refl _).alloc _) (by omega) (by rw [hw2,hB7];simp))
 have R12:=Lib.hid (row_grow R1.out HRR.out.grow)
 have GW2:=Lib.hid (G1.out.trans HRR.out.grow)
 go_upto_region 3 with fail
 rw [← hw2,← hB7]
 clear hw2 hB7
 obtain ⟨c0,c1,c2,c3'⟩:=cells4 R12.out
 have z1:w.heap.size < w2.heap.size:=(Array.getElem?_eq_some_iff.1 R12.out).1
 go_wp2
 clear c0 c1 c2 c3' z1
 go_loopw [5,13] (fun s5 i wr=>∃ k:Nat,k ≤ h.opn.length∧i = .int .i64 k∧Grow w2 wr∧OwnC Ty.ms (fun _=>none) wr w2.heap.size 39 s5 (((h.opn.take k).filter fun o=>!o.dec).flatMap fun o=>abortsE o.deed o.parts)) (fun _ i _=>h.opn.length - (intOf i).toNat)
 case atStart=>exact ⟨0,by omega,rfl,Grow.refl _,OwnC.nil _ _ _ _ _⟩
 case round=>
  obtain ⟨k,hk',rfl,hb,hown⟩:=hrel
  by_cases hlt:k < h.opn.length
  ·obtain ⟨b,o,vp,vh,rfl,c0,c1,c2,c3,i0,hP,hH⟩:=Opns.at_ hel k hlt
   obtain ⟨ap,cp,rfl,-⟩:=id hP
   obtain ⟨ah,ch,rfl,-⟩:=id hH
   have GW:=Lib.hid (GW2.out.trans hb)
   have HAB:=Lib.hid (fun (W:World) (hW:Grow w W)=>head_aborts (d:=h.opn[k].deed) W (hP.mono hW.sub) i0 (HPR.out _ (List.getElem_mem hlt)))
   have HFM:=Lib.hid (fflat_next (fun o:Opn=>!o.dec) (fun o=>abortsE o.deed o.parts) hlt)
   have HL5:=Lib.hid (show (((h.opn.take k).filter fun o=>!o.dec).flatMap fun o=>abortsE o.deed o.parts).length ≤ 36 by
    have h8:=flat_short (fun o:Opn=>aborts_short o.deed o.parts) ((h.opn.take k).filter fun o=>!o.dec)
    have h9:((h.opn.take k).filter fun o=>!o.dec).length ≤ 12:=Nat.le_trans (List.length_filter_le _ _) (by simp;omega)
    omega)
   have HAL:=Lib.hid (aborts_short h.opn[k].deed h.opn[k].parts)
   have HOWN:=Lib.hid hown
   have HB:=Lib.hid hb
   obtain ⟨av,cv,rfl⟩:=hown.form
   replace c0:=GW.out.sub _ _ c0
   replace c1:=GW.out.sub _ _ c1
   replace c2:=GW.out.sub _ _ c2
   replace c3:=GW.out.sub _ _ c3
   clear hel hP hH hown hb i0
   generalize h.opn[k] = q at *
   generalize ((h.opn.take k).filter fun o=>!o.dec).flatMap (fun o=>abortsE o.deed o.parts) = ms at *
   obtain ⟨t,ht⟩:∃ t,t = q.dec:=⟨_,rfl⟩
   rw [← ht] at c2 HFM
   clear ht
   cases t with
   | true=>
    have HF:=Lib.hid HFM.out
    rw [if_neg (by simp)] at HF
    clear HFM
    go_wp2
    go_roundw
    case rel=>exact ⟨k + 1,by omega,by go_num,HB.out.alloc _,by rw [HF.out];exact HOWN.out.grow ((Grow.refl _).alloc _)⟩
    case measure=>simp [intOf];omega
   | false=>
    have HF:=Lib.hid HFM.out
    rw [if_pos (by simp)] at HF
    clear HFM
    go_wp2_with fail
    refine (HAB.out _ (GW.out.alloc _)).mono ?_
    rintro e w4 ⟨v4,rfl,ho4,hb4⟩
    obtain ⟨a4,c4,rfl⟩:=ho4.form
    have G4:=Lib.hid (((Grow.refl wr).alloc _).trans hb4)
    have HSR:Hid (Src Ty.ms (fun _=>none) w4 (.slice a4 (abortsE q.deed q.parts).length c4) (abortsE q.deed q.parts)):=Lib.hid ho4.srcA
    have HO4:=Lib.hid (HOWN.out.grow G4.out)
    clear ho4 hb4 c0 c1 c2 c3
    generalize abortsE q.deed q.parts = aq at *
    go_wp2_with (first | (at_builtin;refine wpList_appc (c:=fun _=>none) (base:=w2.heap.size) (l:=ms) (m:=aq) ei_ms rfl one_Tms (by decide) rfl (.tmp 20) (.tmp 25) rfl rfl HO4.out rfl HSR.out ?d2 ?d3 ?_))
    case d2=>have:=HL5.out;have:=HAL.out;omega
    case d3=>have:=HB.out.size;have:=G4.out.size;omega
    intro a9 c9 w9 ho9 hg9 hb9
    have HG9:Hid (Grow w2 w9):=Lib.hid (grow_by (w0:=w2) (HB.out.trans G4.out) hg9 (fun q hq=>(HOWN.out.lt q hq).1))
    have HO9:=Lib.hid ho9
    clear ho9 hg9 hb9
    go_wp2
    go_roundw
    case rel=>exact ⟨k + 1,by omega,by go_num,HG9.out,by rw [HF.out];exact HO9.out⟩
    case measure=>simp [intOf];omega
  ·have HF2:Hid (((h.opn.take k).filter fun o=>!o.dec).flatMap (fun o=>abortsE o.deed o.parts) = quitM h):=Lib.hid (by rw [List.take_of_length_le (by omega)];rfl)
   have HOWN:=Lib.hid hown
   have HB:=Lib.hid hb
   have HRL:=Lib.hid (HRR.out.later hb)
   have R7L:=Lib.hid (row_grow R7.out hb)
   have R2L:=Lib.hid (row_grow R2.out HRL.out.grow)
   obtain ⟨av,cv,rfl⟩:=hown.form
   clear hel hown hb
   generalize ((h.opn.take k).filter fun o=>!o.dec).flatMap (fun o=>abortsE o.deed o.parts) = ms at *
   obtain ⟨d0,d1,d2,d3⟩:=cells4 R7L.out
   have z7:B7 < wr.heap.size:=(Array.getElem?_eq_some_iff.1 R7L.out).1
   have zr:w.heap.size + 1 < wr.heap.size:=(Array.getElem?_eq_some_iff.1 R2L.out).1
   go_wp2_with fail
   refine (deleteFunc_opn_c (p:=fun o=>!o.dec) (c:=fr wz wr [some B7,(Value.slice ao L.length co).ownBlock]) ?_ HRL.out.opnC (quit_tells _ _ _)).mono ?_
   ·intro a u e
    unfold fr at e
    split at e
    ·cases e
    ·rename_i hn
     unfold frag
     rw [if_neg (fun e=>hn (.inr (by simp [e])))]
     exact e
   rintro e w7 ⟨v7,rfl,ho7,hg7,hb7⟩
   obtain ⟨a7,c7,rfl⟩:=ho7.form
   have hne:some B7 ≠ (Value.slice ao L.length co).ownBlock:=by
    rcases HRL.out.ok.off (i:=0) (j:=2) rfl rfl (by decide) with e | e
    ·exact absurd e (by simp)
    ·exact e
   have R77:=Lib.hid (row_by R7L.out hg7 hne)
   have R27:=Lib.hid (row_by R2L.out hg7 (fun e=>by have:=(HRL.out.opn.lt _ e.symm).1;have:=HZ.out;omega))
   have HG7:=Lib.hid hg7
   have HO7:=Lib.hid ho7
   have HLF:Hid ((L.map (·.1)).filter (fun x=>!(fun o:Opn=>!o.dec) x) = (quitH h).opn):=Lib.hid (by rw [HL.out];simp [quitH])
   have HB7:=Lib.hid hb7
   clear d0 d1 d2 d3 z7 zr hg7 ho7 hb7 hne
   rw [HLF.out] at HO7
   rw [HLF.out]
   go_wp2_with (first | (refine wpList_store_cell rfl (.tmp 31) (.tmp 30) (v:=.slice a7 (quitH h).opn.length c7) (new:=#[.slice ag h.log.length cg,.int .i64 h.boot,.int .i64 h.next,.slice a7 (quitH h).opn.length c7]) rfl rfl (by rfl) (by rfl) R77.out info_opns (by simp) (by rfl) (by rfl) ?_))
   intro w8 r8 g8
   have R28:=Lib.hid (row_by R27.out g8 (fun e=>by have:=Option.some.inj e;have:=HRL.out.ok.lt B7 (by simp [hro]);have:=HZ.out;omega))
   have HG8:=Lib.hid g8
   have R78:=Lib.hid r8
   clear r8 g8
   obtain ⟨d0,d1,d2,d3⟩:=cells4 R78.out
   have z7:B7 < w8.heap.size:=(Array.getElem?_eq_some_iff.1 R78.out).1
   go_wp2_with (first | (refine wpList_store_row rfl (.tmp 2) (.tmp 32) rfl rfl rfl R28.out info_hd rfl rfl ?_))
   intro wf rf gf
   obtain ⟨p0,p1,p2,p3⟩:=cells4 rf
   go_wp2
   refine bodyPost_ret (v:=.tuple #[.agg #[.slice ag h.log.length cg,.int .i64 h.boot,.int .i64 h.next,.slice a7 (quitH h).opn.length c7],.slice av ms.length cv]) (by simp [results,Try.results106,go_sem,p0,p1,p2,p3]) rfl ?_
   have z2:=HZ.out
   have z3:=HG7.out.size
   have z4:=HG8.out.size
   have z5:=gf.size
   have z6:=HRL.out.ok.lt B7 (by simp [hro])
   have z8:=HRL.out.opn.lt
   have hbk:∀ k,k < wr.heap.size→wz.heap.size ≤ k→some k ∉ [some B7,(Value.slice ao L.length co).ownBlock]→wf.heap[k]? = wr.heap[k]?:=fun k h1 h2 h3=>by
    simp only [List.mem_cons,List.not_mem_nil,or_false,not_or] at h3
    rw [gf.block k (by omega) (fun e=>by have:=Option.some.inj e;omega),HG8.out.block k (by omega) h3.1,HG7.out.block k h1 h3.2]
   have sub:=fr_to_ov (w0:=w) (by omega) hbk
   have hro7:OwnC Ty.opn (ov (fun _=>none) w wf) wf wz.heap.size 136 (.slice a7 (quitH h).opn.length c7) (quitH h).opn:=(HO7.out.mono sub).block fun q hq=>by
    have hq1:=(HO7.out.lt q hq)
    have hb8:(Value.slice a7 (quitH h).opn.length c7).ownBlock = (Value.slice ao L.length co).ownBlock:=by cases a7 <;> exact HB7.out
    rw [hb8] at hq
    have h9:=z8 q hq
    rw [gf.block q (by omega) (fun e=>by have:=Option.some.inj e;omega),HG8.out.block q (by omega) (fun e=>by
     have e2:=Option.some.inj e
     rcases HRL.out.ok.off (i:=0) (j:=2) rfl rfl (by decide) with e3 | e3
     ·exact absurd e3 (by simp)
     ·exact e3 (by rw [← e2];exact hq.symm))]
   have hms:OwnC Ty.ms (fun _=>none) wf w2.heap.size 39 (.slice av ms.length cv) ms:=HOWN.out.block fun q hq=>by
    have hq1:=HOWN.out.lt q hq
    have zz:=HRR.out.ok.lt B7 (by simp [hro])
    rw [gf.block q (by omega) (fun e=>by have:=Option.some.inj e;omega),HG8.out.block q (by omega) (fun e=>by have:=Option.some.inj e;omega),HG7.out.block q hq1.2 (fun e=>by have:=(HRR.out.opn.lt q e.symm).2;omega)]
   have zg:=HRR.out.grow.size
   have hgr:Grow w wf:=((((GW2.out.trans HB.out).grown HG7.out (fun q hq=>by have:=(z8 q hq).1;omega)).grown HG8.out (fun q hq=>by have:=Option.some.inj hq;omega)).grown gf (fun q hq=>by have:=Option.some.inj hq;omega))
   rw [← HF2.out]
   exact ⟨_,_,rfl,⟨_,rfl,_,_,rfl,HRL.out.logC.mono sub,HIB.out.1,HIB.out.2,hro7.slc (by decide) (Sub.refl _) fun a ha=>ov_new (by omega)⟩,hms.slc (by decide) (fun _ _ e=>by cases e) fun a ha=>ov_new (by omega),hgr⟩
theorem HR.opn_len {w W:World} {B:Nat} {vl:Value} {lg:List Rc} {L:List OpH} {g cap k:Nat} {x:OpH} (b:HR w W B vl (.slice (some ⟨g,0,none⟩) L.length cap) lg (L.set k x)):OwnC Ty.oph (fr w W (hro B vl (.slice (some ⟨g,0,none⟩) L.length cap) (L.set k x))) W w.heap.size 136 (.slice (some ⟨g,0,none⟩) (L.set k x).length cap) (L.set k x):=by
 rw [List.length_set];exact b.opn
theorem HR.free {w W:World} {B:Nat} {vl:Value} {lg:List Rc} {L:List OpH} {g n cap:Nat} (b:HR w W B vl (.slice (some ⟨g,0,none⟩) n cap) lg L) (p:Nat):W.frozen? ⟨g,p,none⟩ = false:=by
 obtain ⟨css,⟨-,⟨h,-⟩ | ⟨g',cap',cur,he,hg,hrow,-⟩⟩,-,-⟩:=b.opn
 ·cases h
 ·simp only [Value.slice.injEq,Option.some.injEq,Addr.mk.injEq,and_true] at he
  obtain ⟨rfl,-⟩:=he
  simp [World.frozen?,hrow]
def HdPost (wz w:World) (B k:Nat) (boot next:Int) (lg:List Rc) (l:List Opn) (r:List Opn × List Rc × List Ms) (v':Value) (w':World):Prop:=
 ∃ vl' vo' L',w'.heap[B]? = some (.cells #[vl',.int .i64 boot,.int .i64 next,vo'] 57 (0,0))∧HR wz w' B vl' vo' (lg ++ r.2.1) L'∧L'.map (·.1) = l.take k ++ (r.1 ++ l.drop (k + 1))∧Sl Ty.ms (ov (fun _=>none) w w') v' r.2.2∧w.heap.size ≤ w'.heap.size
def yesO (o:Opn) (n:Int):List Opn × List Rc × List Ms:=
 if o.dec = false∧n ∈ housesE o.parts∧n ∉ o.heard then
  (if o.heard.length + 1 = (housesE o.parts).length then ([⟨o.deed,o.parts,true,[]⟩],[⟨5,o.deed,o.parts⟩],asksE ⟨o.deed,o.parts,true,[]⟩)
  else ([⟨o.deed,o.parts,o.dec,o.heard ++ [n]⟩],[],[]))
 else ([o],[],[])
set_option maxRecDepth 100000 in
set_option maxHeartbeats 4000000 in
theorem head_yes {wz:World} (w:World) {B k:Nat} {vl vo:Value} {lg:List Rc} {L:List OpH} {x:OpH} {boot next house:Int} (hr:HR wz w B vl vo lg L) (hrow:w.heap[B]? = some (.cells #[vl,.int .i64 boot,.int .i64 next,vo] 57 (0,0))) (hk:L[k]? = some x) (hp:PtsR x.1.parts) (hh:I64 house) (hlg:lg.length ≤ 100000) (_:L.length ≤ 12) (h3:x.1.heard.length ≤ 3)
  (hle:house ∈ housesE x.1.parts→house ∉ x.1.heard→x.1.heard.length + 1 ≤ (housesE x.1.parts).length) :
  Calls Try.prog 158 #[.pointer (some ⟨B,0,none⟩),.int .i64 k,.int .i64 house] w fun e w'=>∃ v',e = .returned v'∧HdPost wz w B k boot next lg (L.map (·.1)) (yesO x.1 house) v' w':=by
 obtain ⟨q,xv⟩:=x
 dsimp only at hp h3 hle ⊢
 obtain ⟨al,cl,ao,co,rfl,rfl⟩:=hr.form
 have hkl:=(List.getElem?_eq_some_iff.1 hk).1
 obtain ⟨g,vp,rfl,hg1,hg2,c0,c1,c2,c3,i0,hP,hH⟩:=hr.at_ rfl hk
 obtain ⟨ap,cp,rfl,-⟩:=id hP
 dsimp only at c0 c1 c2 c3 i0 hP hH
 obtain ⟨ah,ch,rfl⟩:=hH.form
 have HPs:=Lib.hid (hP.mono (fr_sub _ _ _))
 have HHs:Hid (Sl Ty.int w.cell? (.slice ah q.heard.length ch) q.heard):=Lib.hid (hH.slc (by decide) (fun _ _ e=>by cases e) fun _ _=>rfl)
 have HIN:=Lib.hid (fun (W:World) (hW:Grow w W)=>contains_int (n:=house) W (HHs.out.mono hW.sub))
 have HHO:=Lib.hid (fun (W:World) (hs:Sl Ty.pt W.cell? (.slice ap q.parts.length cp) q.parts)=>part_houses W hs (by have:=hp.len;omega) hp.ne hp.lt)
 have HLE:=Lib.hid hle
 have HRR:=Lib.hid hr
 have HK:=Lib.hid hk
 have HKL:=Lib.hid hkl
 have HI0:=Lib.hid i0
 have HIH:=Lib.hid hh
 have HPP:=Lib.hid hP
 have HHH:=Lib.hid hH
 have HPR:=Lib.hid hp
 have HRW:=Lib.hid hrow
 have HTK:Hid ((L.map (·.1)).take k ++ ([q] ++ (L.map (·.1)).drop (k + 1)) = L.map (·.1)):=Lib.hid (by
  have e:(L.map (·.1))[k]? = some q:=by rw [List.getElem?_map,hk];rfl
  have hk2:k < (L.map (·.1)).length:=by simpa using hkl
  have e2:(L.map (·.1))[k] = q:=(List.getElem?_eq_some_iff.1 e).2
  rw [← e2,List.singleton_append,← List.drop_eq_getElem_cons hk2,List.take_append_drop])
 obtain ⟨b0,b1,b2,b3⟩:=cells4 hrow
 have zB:B < w.heap.size:=(Array.getElem?_eq_some_iff.1 hrow).1
 clear hp hle hr hk i0 hh hP hH hrow
 obtain ⟨t,ht⟩:∃ t,t = q.dec:=⟨_,rfl⟩
 rw [← ht] at c2
 have HT:=Lib.hid ht
 clear ht
 cases t with
 | true=>
  have HF:Hid (yesO q house = ([q],[],[])):=Lib.hid (by unfold yesO;rw [if_neg (by rw [← HT.out];simp)])
  go_enter Try.func158,Try.ntmps158
  go_wp2
  go_ret
  exact ⟨_,rfl,_,_,L,HRW.out,by rw [HF.out,List.append_nil];exact HRR.out,by rw [HF.out];exact HTK.out.symm,by rw [HF.out];exact Sl.nil _ _,Nat.le_refl _⟩
 | false=>
  by_cases hn:house ∈ q.heard
  ·have hnb:decide (house ∈ q.heard) = true:=decide_eq_true hn
   have HF:Hid (yesO q house = ([q],[],[])):=Lib.hid (by unfold yesO;rw [if_neg (by simp [hn])])
   clear hn
   go_enter Try.func158,Try.ntmps158
   go_wp2_with fail
   refine (HIN.out _ (Grow.refl _)).mono ?_
   rintro e w1 ⟨rfl,hb1⟩
   have G1:=Lib.hid hb1
   rw [hnb]
   clear hb1 hnb c0 c1 c2 c3 b0 b1 b2 b3
   go_wp2
   go_ret
   exact ⟨_,rfl,_,_,L,row_grow HRW.out G1.out,by rw [HF.out,List.append_nil];exact HRR.out.later G1.out,by rw [HF.out];exact HTK.out.symm,by rw [HF.out];exact Sl.nil _ _,(G1.out).size⟩
  have hnb:decide (house ∈ q.heard) = false:=decide_eq_false hn
  have HNN:=Lib.hid hn
  clear hn
  by_cases hm:house ∈ housesE q.parts
  ·have HMM:=Lib.hid hm
   have hmb:decide (house ∈ housesE q.parts) = true:=decide_eq_true hm
   have HLN:=Lib.hid (HLE.out hm HNN.out)
   clear hm
   go_enter Try.func158,Try.ntmps158
   go_wp2_with fail
   refine (HIN.out _ (Grow.refl _)).mono ?_
   rintro e w1 ⟨rfl,hb1⟩
   have G1:=Lib.hid hb1
   rw [hnb]
   replace c1:=hb1.sub _ _ c1
   clear hb1 hnb c0 c2 c3 b0 b1 b2 b3
   go_wp2_with fail
   refine (HHO.out _ (HPs.out.mono G1.out.sub)).mono ?_
   rintro e w2 ⟨v2,rfl,ho2,hb2⟩
   obtain ⟨a2,c2',rfl⟩:=owns_form ho2
   have HI2:=Lib.hid (ints_of ho2 (houses_ok q.parts))
   have G2:=Lib.hid (G1.out.trans hb2)
   clear ho2 hb2 c1
   go_wp2_with fail
   refine (contains_int (n:=house) _ HI2.out).mono ?_
   rintro e w3 ⟨rfl,hb3⟩
   have G3:=Lib.hid (G2.out.trans hb3)
   rw [hmb]
   clear hb3 hmb HI2
   have HR3:=Lib.hid (HRR.out.later G3.out)
   have RB3:=Lib.hid (row_grow HRW.out G3.out)
   obtain ⟨g',vp',e1,-,zg,c0,c1,c2,c3,-,hp3,-⟩:=HR3.out.at_ rfl HK.out
   obtain rfl:g = g':=by simpa using e1
   dsimp only at c0 c2 c3
   have sf:=HR3.out.free
   clear e1 hp3 c1 c2 c0
   go_wp2_with (first | (at_builtin;refine wpList_appc (c:=fun _=>none) (base:=wz.heap.size) (l:=q.heard) (m:=[house]) (v:=.slice ah q.heard.length ch) ei_int rfl one_Tint (by decide) rfl (.tmp 40) (.tmp 42) rfl rfl ?own rfl (Src.of_new (T:=Ty.int) (x:=house) (cs:=#[.int .i64 house]) ⟨rfl,HIH.out⟩ _ _ ?d1) ?d2 ?d3 ?_))
   case own=>exact HHH.out.grow (G3.out.alloc _)
   case d1=>first | rfl | simp
   case d2=>simp;omega
   case d3=>have:=HR3.out.grow.size;simp;omega
   intro a5 c5 w5 ho5 hg5 hb5
   have HG5:=Lib.hid hg5
   have HR3a:=Lib.hid (HR3.out.later ((Grow.refl _).alloc (.cells #[.int .i64 house] 3)))
   have hoff:=HR3a.out.ok.off (HR.at_heard HK.out) (j:=2) rfl (by omega)
   have hgne:some g ≠ (Value.slice ah q.heard.length ch).ownBlock:=fun e=>by
    rcases hoff with h | h
    ·rw [h] at e;cases e
    ·exact h e.symm
   have RB5:=Lib.hid (row_by (row_grow RB3.out ((Grow.refl _).alloc (.cells #[.int .i64 house] 3))) hg5 (fun e=>by
    have h9:=HR3a.out.ok.off (HR.at_heard HK.out) (j:=0) rfl (by omega)
    rcases h9 with h | h
    ·rw [h] at e;cases e
    ·exact h e.symm))
   have HNX:=Lib.hid (HR.hear HR3a.out rfl HK.out (W2:=w5) (v':=.slice a5 (q.heard.length + 1) c5) (l':=q.heard ++ [house]) hg5 (hb5.imp_right fun ⟨g,e,hge⟩=>⟨g,e,by simpa using hge⟩) ho5).1
   have e3:w5.cell? ⟨g,k * 4 + 3,none⟩ = some (.slice ah q.heard.length ch):=by
    rw [World.cell?_of_block (a:=⟨g,k * 4 + 3,none⟩) (hg5.block g (by simp;omega) hgne)]
    exact ((Grow.refl w3).alloc _).sub _ _ c3
   have ef:∀ p,w5.frozen? ⟨g,p,none⟩ = false:=fun p=>by
    rw [World.frozen?_of_block (a:=⟨g,p,none⟩) (hg5.block g (by simp;omega) hgne)]
    exact HR3a.out.free p
   have zg5:g < w5.heap.size:=World.block_lt_of_cell? _ _ e3
   clear sf ho5 hg5 hb5 c3 zg hoff hgne
   go_upto_region 5 with fail
   obtain ⟨w6,hw6⟩:∃ y:World,y = w5.setCell ⟨g,k * 4 + 3,none⟩ (.slice a5 (q.heard.length + 1) c5):=⟨_,rfl⟩
   rw [← hw6] at HNX ⊢
   have RB6:Hid (w6.heap[B]? = some (.cells #[.slice al lg.length cl,.int .i64 boot,.int .i64 next,.slice (some ⟨g,0,none⟩) L.length co] 57 (0,0))):=Lib.hid (row_by RB5.out (by rw [hw6];exact grownBy_setCell w5 ⟨g,k * 4 + 3,none⟩ _) (fun e=>by
    rcases HRR.out.ok.off (i:=0) (j:=2) rfl rfl (by decide) with h | h
    ·cases h
    ·exact h e))
   have HZ6:Hid (w.heap.size ≤ w6.heap.size):=Lib.hid (by rw [hw6];have:=G3.out.size;have:=HG5.out.size;simp at *;omega)
   clear hw6 e3 ef zg5
   have HK6:Hid ((L.set k (⟨q.deed,q.parts,q.dec,q.heard ++ [house]⟩,Value.slice a5 (q.heard.length + 1) c5))[k]? = some (⟨q.deed,q.parts,q.dec,q.heard ++ [house]⟩,Value.slice a5 (q.heard.length + 1) c5)):=Lib.hid (List.getElem?_set_self HKL.out)
   have HN6:Hid (HR wz w6 B (.slice al lg.length cl) (.slice (some ⟨g,0,none⟩) L.length co) lg (L.set k (⟨q.deed,q.parts,q.dec,q.heard ++ [house]⟩,Value.slice a5 (q.heard.length + 1) c5))):=Lib.hid HNX.out
   clear HNX
   obtain ⟨g6,vp6,e6,hg6,zg6,d0,d1,d2,d3,-,hp6,-⟩:=HN6.out.at_ (by simp) HK6.out
   obtain rfl:g = g6:=by simpa using e6
   obtain ⟨a6,c6,rfl,-⟩:=id hp6
   dsimp only at d0 d1 d2 d3 hp6
   have HP6:=Lib.hid (hp6.mono (fr_sub _ _ _))
   have HPF:=Lib.hid hp6
   have HS:Hid (∀ W,Grow w6 W→W.cell? ⟨g,k * 4 + 3,none⟩ = some (.slice a5 (q.heard.length + 1) c5)∧W.cell? ⟨g,k * 4 + 1,none⟩ = some (.slice a6 q.parts.length c6)):=fun W hW=>⟨hW.sub _ _ d3,hW.sub _ _ d1⟩
   have HMP:Hid ((L.set k (⟨q.deed,q.parts,q.dec,q.heard ++ [house]⟩,Value.slice a5 (q.heard.length + 1) c5)).map (·.1) = (L.map (·.1)).take k ++ ([⟨q.deed,q.parts,q.dec,q.heard ++ [house]⟩] ++ (L.map (·.1)).drop (k + 1))):=Lib.hid (by rw [List.map_set,List.set_eq_take_append_cons_drop,if_pos (by simpa using HKL.out)];rfl)
   clear e6 hg6 zg6 d0 d1 d2 d3 hp6
   by_cases hall:q.heard.length + 1 = (housesE q.parts).length
   ·have HAL:=Lib.hid hall
    have hdn:decide (q.heard.length + 1 < (housesE q.parts).length) = false:=decide_eq_false (by omega)
    have hdi:¬ (q.heard.length + 1 < (housesE q.parts).length):=by omega
    clear hall
    have HHO6:=Lib.hid (fun (W:World) (hs:Sl Ty.pt W.cell? (.slice a6 q.parts.length c6) q.parts)=>part_houses W hs (by have:=HPR.out.len;omega) HPR.out.ne HPR.out.lt)
    refine bSc (fun w'=>w'.cell? ⟨g,k * 4 + 3,none⟩ = some (.slice a5 (q.heard.length + 1) c5)∧w'.cell? ⟨g,k * 4 + 1,none⟩ = some (.slice a6 q.parts.length c6)) [11] (by kernel_rfl) ?_
    intro wd GD zD
    have ZD:=Lib.hid zD
    clear zD
    refine bLc [0,1,2,3,4,5,6,7,8] 14 (by kernel_rfl) (fun _ _ _ _ _ h=>h) (HS.out _ GD) ?_
    repeat (refine tNc (v:=?_) rfl (by rfl) ?_ ?_;rotate_left;(· (intro w' hSw;(try dsimp only at hSw);obtain ⟨hs0,hs1⟩:=hSw;go_simp <;> with_reducible rfl));try simp only [Act.put,lzA,lzB,lzC,lzD,lzE,lzF])
    refine tEc ?_
    refine bOc 9 (by kernel_rfl) rfl ?_
    intro K HK
    try simp only [lzA,lzB,lzC]
    go_simp
    go_at_call 81
    refine (HHO6.out _ (HP6.out.mono (GD).sub)).mono ?_
    rintro e w8 ⟨v8,rfl,ho8,hb8⟩
    obtain ⟨a8,c8,rfl⟩:=owns_form ho8
    have G8:=Lib.hid (Grow.trans GD hb8)
    clear ho8 hb8
    refine HK.out _ _ ⟨.inr (HS.out _ G8.out),?_⟩
    clear HK K
    try simp only [Act.put,lzA,lzB,lzC,lzD,lzE,lzF]
    refine bLc [10] 14 (by kernel_rfl) (fun _ _ _ _ _ h=>h) (HS.out _ G8.out) ?_
    repeat (refine tNc (v:=?_) rfl (by rfl) ?_ ?_;rotate_left;(· (intro w' hSw;(try dsimp only at hSw);obtain ⟨hs0,hs1⟩:=hSw;go_simp <;> with_reducible rfl));try simp only [Act.put,lzA,lzB,lzC,lzD,lzE,lzF])
    refine tEc ?_
    refine bOc 11 (by kernel_rfl) rfl ?_
    intro K HK
    try simp only [lzA,lzB,lzC]
    go_simp
    refine HK.out _ _ ⟨.inl (by decide),?_⟩
    clear HK K
    try simp only [Act.put,lzA,lzB,lzC,lzD,lzE,lzF]
    refine bDc (by kernel_rfl) ?_
    have RB8:=Lib.hid (row_grow RB6.out G8.out)
    have HN8:=Lib.hid (HN6.out.later G8.out)
    obtain ⟨e0,-,-,-⟩:=cells4 RB8.out
    obtain ⟨g7,vp7,e7,-,-,d0,-,-,-,-,-,-⟩:=HN8.out.at_ (by simp) HK6.out
    obtain rfl:g = g7:=by simpa using e7
    dsimp only at d0
    have d1:=(HS.out _ G8.out).2
    have HS7:Hid (∀ W,Grow w8 W→W.cell? ⟨B,0,none⟩ = some (.slice al lg.length cl)∧W.cell? ⟨g,k * 4,none⟩ = some (.int .i64 q.deed)∧W.cell? ⟨g,k * 4 + 1,none⟩ = some (.slice a6 q.parts.length c6)):=fun W hW=>⟨hW.sub _ _ e0,hW.sub _ _ d0,hW.sub _ _ d1⟩
    clear e7 e0 d0 d1
    go_upto_region 7 with fail
    refine bSc (fun w'=>w'.cell? ⟨B,0,none⟩ = some (.slice al lg.length cl)∧w'.cell? ⟨g,k * 4,none⟩ = some (.int .i64 q.deed)∧w'.cell? ⟨g,k * 4 + 1,none⟩ = some (.slice a6 q.parts.length c6)) [19] (by kernel_rfl) ?_
    intro wd GD zD
    have ZD:=Lib.hid zD
    clear zD
    refine bLc [0,1,2,3,4,5,6,7,8,9,10,11,12] 22 (by kernel_rfl) (fun _ _ _ _ _ h=>h) (HS7.out _ GD) ?_
    repeat (refine tNc (v:=?_) rfl (by rfl) ?_ ?_;rotate_left;(· (intro w' hSw;(try dsimp only at hSw);obtain ⟨hs0,hs1,hs2⟩:=hSw;go_simp <;> with_reducible rfl));try simp only [Act.put,lzA,lzB,lzC,lzD,lzE,lzF])
    refine tEc ?_
    refine bOc 13 (by kernel_rfl) rfl ?_
    intro K HK
    try simp only [lzA,lzB,lzC]
    go_simp
    go_at_call 122
    refine (clone_pt _ (HP6.out.mono ((G8.out.trans GD).sub)) (by have:=HPR.out.len;omega)).mono ?_
    rintro e w9 ⟨v9,rfl,ho9,hb9⟩
    obtain ⟨a7,c7,rfl⟩:=owns_form ho9
    have HO9:=Lib.hid (OwnC.pts (c:=fun _=>none) ho9 (Pts.ok HP6.out))
    have G9:=Lib.hid (Grow.trans GD hb9)
    clear ho9 hb9
    refine HK.out _ _ ⟨.inr (HS7.out _ G9.out),?_⟩
    clear HK K
    try simp only [Act.put,lzA,lzB,lzC,lzD,lzE,lzF]
    refine bLc [14] 22 (by kernel_rfl) (fun _ _ _ _ _ h=>h) (HS7.out _ G9.out) ?_
    repeat (refine tNc (v:=?_) rfl (by rfl) ?_ ?_;rotate_left;(· (intro w' hSw;(try dsimp only at hSw);obtain ⟨hs0,hs1,hs2⟩:=hSw;go_simp <;> with_reducible rfl));try simp only [Act.put,lzA,lzB,lzC,lzD,lzE,lzF])
    refine tEc ?_
    refine bOc 15 (by kernel_rfl) rfl ?_
    intro K HK
    try simp only [lzA,lzB,lzC]
    go_simp
    obtain ⟨w10,hw10⟩:∃ y:World,y = w9.alloc (.cells #[.int .i64 5,.int .i64 q.deed,.slice a7 q.parts.length c7] 48):=⟨_,rfl⟩
    have G10:Hid (Grow w8 w10):=Lib.hid (by rw [hw10];exact (G9.out).alloc _)
    have HN10:=Lib.hid (HN6.out.later (G8.out.trans G10.out))
    have HSR:Hid (Src Ty.rc (fr wz w10 (hro B (.slice al lg.length cl) (.slice (some ⟨g,0,none⟩) L.length co) (L.set k (⟨q.deed,q.parts,q.dec,q.heard ++ [house]⟩,Value.slice a5 (q.heard.length + 1) c5)))) w10 (.slice (some ⟨w9.heap.size,0,none⟩) 1 1) [(⟨5,q.deed,q.parts⟩:Rc)]):=Lib.hid (by
     have hsl:Sl Ty.pt (fr wz w10 (hro B (.slice al lg.length cl) (.slice (some ⟨g,0,none⟩) L.length co) (L.set k (⟨q.deed,q.parts,q.dec,q.heard ++ [house]⟩,Value.slice a5 (q.heard.length + 1) c5)))) (.slice a7 q.parts.length c7) q.parts:=(HO9.out.grow (w':=w10) (by rw [hw10];exact (Grow.refl _).alloc _)).slb (by decide) (fun a v e=>by cases e) fun a ha=>by
      have h9:=(HO9.out.lt _ ha).1
      have h8:=GD.size
      have h7:=G8.out.size
      have h6:=HN6.out.grow.size
      exact fr_new (by omega) (fun hm=>by have:=(HN6.out.ok.lt _ hm).2;omega)
     rw [hw10] at hsl ⊢
     exact Src.of_new (T:=Ty.rc) (x:=(⟨5,q.deed,q.parts⟩:Rc)) (cs:=#[.int .i64 5,.int .i64 q.deed,.slice a7 q.parts.length c7]) ⟨_,rfl,(show I64 5 from by unfold I64;decide),HI0.out,hsl⟩ _ _ rfl)
    rw [← hw10]
    clear hw10
    refine HK.out _ _ ⟨.inr (HS7.out _ G10.out),?_⟩
    clear HK K
    try simp only [Act.put,lzA,lzB,lzC,lzD,lzE,lzF]
    refine bOc 16 (by kernel_rfl) rfl ?_
    intro K HK
    refine wanted_go rfl ?_
    try simp only [lzA,lzB,lzC]
    refine wp_appc (c:=(fr wz w10 (hro B (.slice al lg.length cl) (.slice (some ⟨g,0,none⟩) L.length co) (L.set k (⟨q.deed,q.parts,q.dec,q.heard ++ [house]⟩,Value.slice a5 (q.heard.length + 1) c5))))) (base:=wz.heap.size) (l:=lg) (m:=[(⟨5,q.deed,q.parts⟩:Rc)]) (v:=.slice al lg.length cl) ei_rc rfl one_Trc (by decide) (.tmp 62) (.tmp 73) rfl rfl HN10.out.log rfl HSR.out (by simp;omega) (by have:=HN6.out.grow.size;have:=G8.out.size;have:=G10.out.size;omega) ?_
    intro a9 c9 w11 ho11 hg11 hb11
    have HN11:=Lib.hid (HN10.out.logs hg11 hb11 ho11)
    have HG11:=Lib.hid hg11
    have NB:Hid (some B ≠ (Value.slice al lg.length cl).ownBlock):=Lib.hid (fun e=>by rcases HN6.out.ok.off (i:=0) (j:=1) rfl rfl (by decide) with h | h;exact absurd h (by simp);exact h e)
    have RB11:=Lib.hid (row_by (row_grow RB6.out (G8.out.trans G10.out)) hg11 NB.out)
    have NG:Hid (some g ≠ (Value.slice al lg.length cl).ownBlock):=Lib.hid (fun e=>by rcases HN6.out.ok.off (i:=2) (j:=1) rfl rfl (by decide) with h | h;exact absurd h (by simp [Value.ownBlock]);exact h e)
    have HS11:Hid (w11.cell? ⟨B,0,none⟩ = some (.slice al lg.length cl)∧w11.cell? ⟨g,k * 4,none⟩ = some (.int .i64 q.deed)∧w11.cell? ⟨g,k * 4 + 1,none⟩ = some (.slice a6 q.parts.length c6)):=Lib.hid (by
     have hs:=HS7.out w10 G10.out
     exact ⟨HG11.out.cell hs.1 NB.out,HG11.out.cell hs.2.1 NG.out,HG11.out.cell hs.2.2 NG.out⟩)
    clear ho11 hg11 hb11
    refine HK.out _ _ ⟨.inr (HS11.out),?_⟩
    clear HK K
    try simp only [Act.put,lzD,lzE,lzF]
    refine bLc [17,18] 22 (by kernel_rfl) (fun _ _ _ _ _ h=>h) (HS11.out) ?_
    repeat (refine tNc (v:=?_) rfl (by rfl) ?_ ?_;rotate_left;(· (intro w' hSw;(try dsimp only at hSw);obtain ⟨hs0,hs1,hs2⟩:=hSw;go_simp <;> with_reducible rfl));try simp only [Act.put,lzA,lzB,lzC,lzD,lzE,lzF])
    refine tEc ?_
    refine bOc 19 (by kernel_rfl) rfl ?_
    intro K HK
    refine wanted_go rfl ?_
    try simp only [lzA,lzB,lzC]
    refine wp_store_cell (.tmp 76) (.tmp 74) (v:=.slice a9 (lg.length + 1) c9) (new:=#[.slice a9 (lg.length + 1) c9,.int .i64 boot,.int .i64 next,.slice (some ⟨g,0,none⟩) L.length co]) rfl rfl (by rfl) (by rfl) RB11.out info_rcs (by simp) (by rfl) (by rfl) ?_
    intro w12 r12 g12
    refine HK.out _ _ ⟨.inl (by decide),?_⟩
    clear HK K
    try simp only [Act.put]
    refine bDc (by kernel_rfl) ?_
    have HN12:=Lib.hid (HN11.out.box g12)
    have R12:=Lib.hid r12
    have HZ12:Hid (w.heap.size ≤ w12.heap.size):=Lib.hid (by have:=HZ6.out;have:=G8.out.size;have:=G10.out.size;have:=HG11.out.size;have:=g12.size;omega)
    clear r12 g12
    have HF:Hid (yesO q house = ([⟨q.deed,q.parts,true,[]⟩],[⟨5,q.deed,q.parts⟩],asksE ⟨q.deed,q.parts,true,[]⟩)):=Lib.hid (by unfold yesO;rw [if_pos ⟨HT.out.symm,HMM.out,HNN.out⟩,if_pos HAL.out])
    obtain ⟨g9,vp9,e9,hg9,zg9,d0,d1,d2,d3,-,hp9,-⟩:=HN12.out.at_ (by simp) HK6.out
    obtain rfl:g = g9:=by simpa using e9
    dsimp only at d0 d1 d2 d3 hp9
    have sf:=HN12.out.free
    have HN13:=Lib.hid (HN12.out.decide (by simp) HK6.out)
    clear e9 hg9 d0 d1 hp9
    go_upto_region 9 with fail
    obtain ⟨w13,hw13⟩:∃ y:World,y = (w12.setCell ⟨g,k * 4 + 2,none⟩ (.bool true)).setCell ⟨g,k * 4 + 3,none⟩ (.slice none 0 0):=⟨_,rfl⟩
    rw [← hw13]
    rw [← hw13] at HN13
    have HG13:Hid (w12.grownBy w13 (some g)):=Lib.hid (by rw [hw13];exact grownBy_trans (grownBy_setCell w12 ⟨g,k * 4 + 2,none⟩ _) (grownBy_setCell _ ⟨g,k * 4 + 3,none⟩ _))
    clear hw13 d2 d3 sf zg9
    have HK13:Hid (((L.set k (⟨q.deed,q.parts,q.dec,q.heard ++ [house]⟩,Value.slice a5 (q.heard.length + 1) c5)).set k (⟨q.deed,q.parts,true,[]⟩,Value.slice none 0 0))[k]? = some (⟨q.deed,q.parts,true,[]⟩,Value.slice none 0 0)):=Lib.hid (List.getElem?_set_self (by simpa using HKL.out))
    obtain ⟨g9,vp9,e9,hg9,zg9,d0,d1,d2,d3,i9,hp9,-⟩:=HN13.out.at_ (by simp) HK13.out
    obtain rfl:g = g9:=by simpa using e9
    dsimp only at d0 d1 d2 d3 hp9 i9
    obtain ⟨a9p,c9p,rfl,-⟩:=id hp9
    have HAS:=Lib.hid (head_asks (o:=⟨q.deed,q.parts,true,[]⟩) (ah:=none) (ch:=0) w13 ⟨d0,d1,d2,d3,i9,hp9.mono (fr_sub _ _ _),Sl.nil _ _⟩ HPR.out)
    have RB13:=Lib.hid (row_by R12.out HG13.out (fun e=>by rcases HN6.out.ok.off (i:=0) (j:=2) rfl rfl (by decide) with h | h;exact absurd h (by simp);exact h e))
    clear e9 hg9 zg9 d0 d1 d2 d3 i9 hp9
    go_wp2_with fail
    refine HAS.out.mono ?_
    rintro e w14 ⟨v14,rfl,ho14,hb14⟩
    obtain ⟨a14,c14,rfl⟩:=ho14.form
    have HM:=Lib.hid (OwnC.ovn (by decide) ho14)
    have G14:=Lib.hid hb14
    clear ho14 hb14
    generalize hms:asksE ⟨q.deed,q.parts,true,[]⟩ = ms at *
    have HMS:=Lib.hid hms
    clear hms
    go_wp2
    go_ret
    have z1:=HZ12.out
    have z2:=HG13.out.size
    have z3:=G14.out.size
    refine ⟨_,rfl,_,_,_,row_grow RB13.out G14.out,by rw [HF.out];exact HN13.out.later G14.out,?_,?_,by omega⟩
    ·rw [HF.out,List.set_set,List.map_set,List.set_eq_take_append_cons_drop,if_pos (by simpa using HKL.out)];rfl
    ·rw [HF.out]
     dsimp only
     refine Sl.mono (fun a v e=>?_) HM.out
     unfold ov at e
     split at e
     ·cases e
     ·rw [ov_new (by omega)];exact e
   ·have HNA:=Lib.hid hall
    have hdn:decide (q.heard.length + 1 < (housesE q.parts).length) = true:=decide_eq_true (by have:=HLN.out;omega)
    have hdi:q.heard.length + 1 < (housesE q.parts).length:=by have:=HLN.out;omega
    clear hall
    have HF:Hid (yesO q house = ([⟨q.deed,q.parts,q.dec,q.heard ++ [house]⟩],[],[])):=Lib.hid (by unfold yesO;rw [if_pos ⟨HT.out.symm,HMM.out,HNN.out⟩,if_neg HNA.out])
    have HHO6:=Lib.hid (fun (W:World) (hs:Sl Ty.pt W.cell? (.slice a6 q.parts.length c6) q.parts)=>part_houses W hs (by have:=HPR.out.len;omega) HPR.out.ne HPR.out.lt)
    refine bSc (fun w'=>w'.cell? ⟨g,k * 4 + 3,none⟩ = some (.slice a5 (q.heard.length + 1) c5)∧w'.cell? ⟨g,k * 4 + 1,none⟩ = some (.slice a6 q.parts.length c6)) [11] (by kernel_rfl) ?_
    intro wd GD zD
    have ZD:=Lib.hid zD
    clear zD
    refine bLc [0,1,2,3,4,5,6,7,8] 14 (by kernel_rfl) (fun _ _ _ _ _ h=>h) (HS.out _ GD) ?_
    repeat (refine tNc (v:=?_) rfl (by rfl) ?_ ?_;rotate_left;(· (intro w' hSw;(try dsimp only at hSw);obtain ⟨hs0,hs1⟩:=hSw;go_simp <;> with_reducible rfl));try simp only [Act.put,lzA,lzB,lzC,lzD,lzE,lzF])
    refine tEc ?_
    refine bOc 9 (by kernel_rfl) rfl ?_
    intro K HK
    try simp only [lzA,lzB,lzC]
    go_simp
    go_at_call 81
    refine (HHO6.out _ (HP6.out.mono (GD).sub)).mono ?_
    rintro e w8 ⟨v8,rfl,ho8,hb8⟩
    obtain ⟨a8,c8,rfl⟩:=owns_form ho8
    have G8:=Lib.hid (Grow.trans GD hb8)
    clear ho8 hb8
    refine HK.out _ _ ⟨.inr (HS.out _ G8.out),?_⟩
    clear HK K
    try simp only [Act.put,lzA,lzB,lzC,lzD,lzE,lzF]
    refine bLc [10] 14 (by kernel_rfl) (fun _ _ _ _ _ h=>h) (HS.out _ G8.out) ?_
    repeat (refine tNc (v:=?_) rfl (by rfl) ?_ ?_;rotate_left;(· (intro w' hSw;(try dsimp only at hSw);obtain ⟨hs0,hs1⟩:=hSw;go_simp <;> with_reducible rfl));try simp only [Act.put,lzA,lzB,lzC,lzD,lzE,lzF])
    refine tEc ?_
    refine bOc 11 (by kernel_rfl) rfl ?_
    intro K HK
    try simp only [lzA,lzB,lzC]
    go_simp
    refine HK.out _ _ ⟨.inl (by decide),?_⟩
    clear HK K
    try simp only [Act.put,lzA,lzB,lzC,lzD,lzE,lzF]
    refine bDc (by kernel_rfl) ?_
    go_wp2
    go_ret
    exact ⟨_,rfl,_,_,_,row_grow RB6.out G8.out,by rw [HF.out,List.append_nil];exact HN6.out.later G8.out,by rw [HF.out];exact HMP.out,by rw [HF.out];exact Sl.nil _ _,by have:=HZ6.out;have:=G8.out.size;omega⟩
  ·have hmb:decide (house ∈ housesE q.parts) = false:=decide_eq_false hm
   have HF:Hid (yesO q house = ([q],[],[])):=Lib.hid (by unfold yesO;rw [if_neg (by simp [hm])])
   clear hm
   go_enter Try.func158,Try.ntmps158
   go_wp2_with fail
   refine (HIN.out _ (Grow.refl _)).mono ?_
   rintro e w1 ⟨rfl,hb1⟩
   have G1:=Lib.hid hb1
   rw [hnb]
   replace c1:=hb1.sub _ _ c1
   clear hb1 hnb c0 c2 c3 b0 b1 b2 b3
   go_wp2_with fail
   refine (HHO.out _ (HPs.out.mono G1.out.sub)).mono ?_
   rintro e w2 ⟨v2,rfl,ho2,hb2⟩
   obtain ⟨a2,c2',rfl⟩:=owns_form ho2
   have HI2:=Lib.hid (ints_of ho2 (houses_ok q.parts))
   have G2:=Lib.hid (G1.out.trans hb2)
   clear ho2 hb2 c1
   go_wp2_with fail
   refine (contains_int (n:=house) _ HI2.out).mono ?_
   rintro e w3 ⟨rfl,hb3⟩
   have G3:=Lib.hid (G2.out.trans hb3)
   rw [hmb]
   clear hb3 hmb
   go_wp2
   go_ret
   exact ⟨_,rfl,_,_,L,row_grow HRW.out G3.out,by rw [HF.out,List.append_nil];exact HRR.out.later G3.out,by rw [HF.out];exact HTK.out.symm,by rw [HF.out];exact Sl.nil _ _,(G3.out).size⟩
def ackO (o:Opn) (n:Int):List Opn × List Rc × List Ms:=
 if o.dec = true∧n ∈ housesE o.parts∧n ∉ o.heard then
  (if o.heard.length + 1 = (housesE o.parts).length then ([],[⟨6,o.deed,[]⟩],[]) else ([⟨o.deed,o.parts,o.dec,o.heard ++ [n]⟩],[],[]))
 else ([o],[],[])
set_option maxRecDepth 100000 in
set_option maxHeartbeats 4000000 in
theorem head_ack {wz:World} (w:World) {B k:Nat} {vl vo:Value} {lg:List Rc} {L:List OpH} {x:OpH} {boot next house:Int} (hr:HR wz w B vl vo lg L) (hrow:w.heap[B]? = some (.cells #[vl,.int .i64 boot,.int .i64 next,vo] 57 (0,0))) (hk:L[k]? = some x) (hp:PtsR x.1.parts) (hh:I64 house) (hlg:lg.length ≤ 100000) (hL:L.length ≤ 12) (h3:x.1.heard.length ≤ 3)
  (hle:house ∈ housesE x.1.parts→house ∉ x.1.heard→x.1.heard.length + 1 ≤ (housesE x.1.parts).length) :
  Calls Try.prog 160 #[.pointer (some ⟨B,0,none⟩),.int .i64 k,.int .i64 house] w fun e w'=>e = .returned (.tuple #[])∧HdPost wz w B k boot next lg (L.map (·.1)) (ackO x.1 house) (.slice none 0 0) w':=by
 obtain ⟨q,xv⟩:=x
 dsimp only at hp h3 hle ⊢
 obtain ⟨al,cl,ao,co,rfl,rfl⟩:=hr.form
 have hkl:=(List.getElem?_eq_some_iff.1 hk).1
 obtain ⟨g,vp,rfl,hg1,hg2,c0,c1,c2,c3,i0,hP,hH⟩:=hr.at_ rfl hk
 obtain ⟨ap,cp,rfl,-⟩:=id hP
 dsimp only at c0 c1 c2 c3 i0 hP hH
 obtain ⟨ah,ch,rfl⟩:=hH.form
 have HPs:=Lib.hid (hP.mono (fr_sub _ _ _))
 have HHs:Hid (Sl Ty.int w.cell? (.slice ah q.heard.length ch) q.heard):=Lib.hid (hH.slc (by decide) (fun _ _ e=>by cases e) fun _ _=>rfl)
 have HIN:=Lib.hid (fun (W:World) (hW:Grow w W)=>contains_int (n:=house) W (HHs.out.mono hW.sub))
 have HHO:=Lib.hid (fun (W:World) (hs:Sl Ty.pt W.cell? (.slice ap q.parts.length cp) q.parts)=>part_houses W hs (by have:=hp.len;omega) hp.ne hp.lt)
 have HLE:=Lib.hid hle
 have HRR:=Lib.hid hr
 have HK:=Lib.hid hk
 have HKL:=Lib.hid hkl
 have HI0:=Lib.hid i0
 have HIH:=Lib.hid hh
 have HPP:=Lib.hid hP
 have HHH:=Lib.hid hH
 have HPR:=Lib.hid hp
 have HRW:=Lib.hid hrow
 have HTK:Hid ((L.map (·.1)).take k ++ ([q] ++ (L.map (·.1)).drop (k + 1)) = L.map (·.1)):=Lib.hid (by
  have e:(L.map (·.1))[k]? = some q:=by rw [List.getElem?_map,hk];rfl
  have hk2:k < (L.map (·.1)).length:=by simpa using hkl
  have e2:(L.map (·.1))[k] = q:=(List.getElem?_eq_some_iff.1 e).2
  rw [← e2,List.singleton_append,← List.drop_eq_getElem_cons hk2,List.take_append_drop])
 obtain ⟨b0,b1,b2,b3⟩:=cells4 hrow
 have zB:B < w.heap.size:=(Array.getElem?_eq_some_iff.1 hrow).1
 clear hp hle hr hk i0 hh hP hH hrow
 obtain ⟨t,ht⟩:∃ t,t = q.dec:=⟨_,rfl⟩
 rw [← ht] at c2
 have HT:=Lib.hid ht
 clear ht
 cases t with
 | false=>
  have HF:Hid (ackO q house = ([q],[],[])):=Lib.hid (by unfold ackO;rw [if_neg (by rw [← HT.out];simp)])
  go_enter Try.func160,Try.ntmps160
  go_wp2
  refine bodyPost_ret (v:=.tuple #[]) (by simp [results,Try.results160,go_sem]) rfl ?_
  exact ⟨rfl,_,_,L,HRW.out,by rw [HF.out,List.append_nil];exact HRR.out,by rw [HF.out];exact HTK.out.symm,by rw [HF.out];exact Sl.nil _ _,Nat.le_refl _⟩
 | true=>
  by_cases hn:house ∈ q.heard
  ·have hnb:decide (house ∈ q.heard) = true:=decide_eq_true hn
   have HF:Hid (ackO q house = ([q],[],[])):=Lib.hid (by unfold ackO;rw [if_neg (by simp [hn])])
   clear hn
   go_enter Try.func160,Try.ntmps160
   go_wp2_with fail
   refine (HIN.out _ (Grow.refl _)).mono ?_
   rintro e w1 ⟨rfl,hb1⟩
   have G1:=Lib.hid hb1
   rw [hnb]
   clear hb1 hnb c0 c1 c2 c3 b0 b1 b2 b3
   go_wp2
   refine bodyPost_ret (v:=.tuple #[]) (by simp [results,Try.results160,go_sem]) rfl ?_
   exact ⟨rfl,_,_,L,row_grow HRW.out G1.out,by rw [HF.out,List.append_nil];exact HRR.out.later G1.out,by rw [HF.out];exact HTK.out.symm,by rw [HF.out];exact Sl.nil _ _,(G1.out).size⟩
  have hnb:decide (house ∈ q.heard) = false:=decide_eq_false hn
  have HNN:=Lib.hid hn
  clear hn
  by_cases hm:house ∈ housesE q.parts
  ·have HMM:=Lib.hid hm
   have hmb:decide (house ∈ housesE q.parts) = true:=decide_eq_true hm
   have HLN:=Lib.hid (HLE.out hm HNN.out)
   clear hm
   go_enter Try.func160,Try.ntmps160
   go_wp2_with fail
   refine (HIN.out _ (Grow.refl _)).mono ?_
   rintro e w1 ⟨rfl,hb1⟩
   have G1:=Lib.hid hb1
   rw [hnb]
   replace c1:=hb1.sub _ _ c1
   clear hb1 hnb c0 c2 c3 b0 b1 b2 b3
   go_wp2_with fail
   refine (HHO.out _ (HPs.out.mono G1.out.sub)).mono ?_
   rintro e w2 ⟨v2,rfl,ho2,hb2⟩
   obtain ⟨a2,c2',rfl⟩:=owns_form ho2
   have HI2:=Lib.hid (ints_of ho2 (houses_ok q.parts))
   have G2:=Lib.hid (G1.out.trans hb2)
   clear ho2 hb2 c1
   go_wp2_with fail
   refine (contains_int (n:=house) _ HI2.out).mono ?_
   rintro e w3 ⟨rfl,hb3⟩
   have G3:=Lib.hid (G2.out.trans hb3)
   rw [hmb]
   clear hb3 hmb HI2
   have HR3:=Lib.hid (HRR.out.later G3.out)
   have RB3:=Lib.hid (row_grow HRW.out G3.out)
   obtain ⟨g',vp',e1,-,zg,c0,c1,c2,c3,-,hp3,-⟩:=HR3.out.at_ rfl HK.out
   obtain rfl:g = g':=by simpa using e1
   dsimp only at c0 c2 c3
   have sf:=HR3.out.free
   clear e1 hp3 c1 c2 c0
   go_wp2_with (first | (at_builtin;refine wpList_appc (c:=fun _=>none) (base:=wz.heap.size) (l:=q.heard) (m:=[house]) (v:=.slice ah q.heard.length ch) ei_int rfl one_Tint (by decide) rfl (.tmp 40) (.tmp 42) rfl rfl ?own rfl (Src.of_new (T:=Ty.int) (x:=house) (cs:=#[.int .i64 house]) ⟨rfl,HIH.out⟩ _ _ ?d1) ?d2 ?d3 ?_))
   case own=>exact HHH.out.grow (G3.out.alloc _)
   case d1=>first | rfl | simp
   case d2=>simp;omega
   case d3=>have:=HR3.out.grow.size;simp;omega
   intro a5 c5 w5 ho5 hg5 hb5
   have HG5:=Lib.hid hg5
   have HR3a:=Lib.hid (HR3.out.later ((Grow.refl _).alloc (.cells #[.int .i64 house] 3)))
   have hoff:=HR3a.out.ok.off (HR.at_heard HK.out) (j:=2) rfl (by omega)
   have hgne:some g ≠ (Value.slice ah q.heard.length ch).ownBlock:=fun e=>by
    rcases hoff with h | h
    ·rw [h] at e;cases e
    ·exact h e.symm
   have RB5:=Lib.hid (row_by (row_grow RB3.out ((Grow.refl _).alloc (.cells #[.int .i64 house] 3))) hg5 (fun e=>by
    have h9:=HR3a.out.ok.off (HR.at_heard HK.out) (j:=0) rfl (by omega)
    rcases h9 with h | h
    ·rw [h] at e;cases e
    ·exact h e.symm))
   have HNX:=Lib.hid (HR.hear HR3a.out rfl HK.out (W2:=w5) (v':=.slice a5 (q.heard.length + 1) c5) (l':=q.heard ++ [house]) hg5 (hb5.imp_right fun ⟨g,e,hge⟩=>⟨g,e,by simpa using hge⟩) ho5).1
   have e3:w5.cell? ⟨g,k * 4 + 3,none⟩ = some (.slice ah q.heard.length ch):=by
    rw [World.cell?_of_block (a:=⟨g,k * 4 + 3,none⟩) (hg5.block g (by simp;omega) hgne)]
    exact ((Grow.refl w3).alloc _).sub _ _ c3
   have ef:∀ p,w5.frozen? ⟨g,p,none⟩ = false:=fun p=>by
    rw [World.frozen?_of_block (a:=⟨g,p,none⟩) (hg5.block g (by simp;omega) hgne)]
    exact HR3a.out.free p
   have zg5:g < w5.heap.size:=World.block_lt_of_cell? _ _ e3
   clear sf ho5 hg5 hb5 c3 zg hoff hgne
   go_upto_region 3 with fail
   obtain ⟨w6,hw6⟩:∃ y:World,y = w5.setCell ⟨g,k * 4 + 3,none⟩ (.slice a5 (q.heard.length + 1) c5):=⟨_,rfl⟩
   rw [← hw6] at HNX ⊢
   have RB6:Hid (w6.heap[B]? = some (.cells #[.slice al lg.length cl,.int .i64 boot,.int .i64 next,.slice (some ⟨g,0,none⟩) L.length co] 57 (0,0))):=Lib.hid (row_by RB5.out (by rw [hw6];exact grownBy_setCell w5 ⟨g,k * 4 + 3,none⟩ _) (fun e=>by
    rcases HRR.out.ok.off (i:=0) (j:=2) rfl rfl (by decide) with h | h
    ·cases h
    ·exact h e))
   have HZ6:Hid (w.heap.size ≤ w6.heap.size):=Lib.hid (by rw [hw6];have:=G3.out.size;have:=HG5.out.size;simp at *;omega)
   clear hw6 e3 ef zg5
   have HK6:Hid ((L.set k (⟨q.deed,q.parts,q.dec,q.heard ++ [house]⟩,Value.slice a5 (q.heard.length + 1) c5))[k]? = some (⟨q.deed,q.parts,q.dec,q.heard ++ [house]⟩,Value.slice a5 (q.heard.length + 1) c5)):=Lib.hid (List.getElem?_set_self HKL.out)
   have HN6:Hid (HR wz w6 B (.slice al lg.length cl) (.slice (some ⟨g,0,none⟩) L.length co) lg (L.set k (⟨q.deed,q.parts,q.dec,q.heard ++ [house]⟩,Value.slice a5 (q.heard.length + 1) c5))):=Lib.hid HNX.out
   clear HNX
   obtain ⟨g6,vp6,e6,hg6,zg6,d0,d1,d2,d3,-,hp6,-⟩:=HN6.out.at_ (by simp) HK6.out
   obtain rfl:g = g6:=by simpa using e6
   obtain ⟨a6,c6,rfl,-⟩:=id hp6
   dsimp only at d0 d1 d2 d3 hp6
   have HP6:=Lib.hid (hp6.mono (fr_sub _ _ _))
   have HPF:=Lib.hid hp6
   have HS:Hid (∀ W,Grow w6 W→W.cell? ⟨g,k * 4 + 3,none⟩ = some (.slice a5 (q.heard.length + 1) c5)∧W.cell? ⟨g,k * 4 + 1,none⟩ = some (.slice a6 q.parts.length c6)):=fun W hW=>⟨hW.sub _ _ d3,hW.sub _ _ d1⟩
   have HMP:Hid ((L.set k (⟨q.deed,q.parts,q.dec,q.heard ++ [house]⟩,Value.slice a5 (q.heard.length + 1) c5)).map (·.1) = (L.map (·.1)).take k ++ ([⟨q.deed,q.parts,q.dec,q.heard ++ [house]⟩] ++ (L.map (·.1)).drop (k + 1))):=Lib.hid (by rw [List.map_set,List.set_eq_take_append_cons_drop,if_pos (by simpa using HKL.out)];rfl)
   clear e6 hg6 zg6 d0 d1 d2 d3 hp6
   by_cases hall:q.heard.length + 1 = (housesE q.parts).length
   ·have HAL:=Lib.hid hall
    have hdn:(q.heard.length + 1 == (housesE q.parts).length) = true:=by simp [hall]
    have hdi:((q.heard.length:Int) + 1 == ((housesE q.parts).length:Int)) = true:=by simp;omega
    clear hall
    have HHO6:=Lib.hid (fun (W:World) (hs:Sl Ty.pt W.cell? (.slice a6 q.parts.length c6) q.parts)=>part_houses W hs (by have:=HPR.out.len;omega) HPR.out.ne HPR.out.lt)
    refine bSc (fun w'=>w'.cell? ⟨g,k * 4 + 3,none⟩ = some (.slice a5 (q.heard.length + 1) c5)∧w'.cell? ⟨g,k * 4 + 1,none⟩ = some (.slice a6 q.parts.length c6)) [11] (by kernel_rfl) ?_
    intro wd GD zD
    have ZD:=Lib.hid zD
    clear zD
    refine bLc [0,1,2,3,4,5,6,7,8] 14 (by kernel_rfl) (fun _ _ _ _ _ h=>h) (HS.out _ GD) ?_
    repeat (refine tNc (v:=?_) rfl (by rfl) ?_ ?_;rotate_left;(· (intro w' hSw;(try dsimp only at hSw);obtain ⟨hs0,hs1⟩:=hSw;go_simp <;> with_reducible rfl));try simp only [Act.put,lzA,lzB,lzC,lzD,lzE,lzF])
    refine tEc ?_
    refine bOc 9 (by kernel_rfl) rfl ?_
    intro K HK
    try simp only [lzA,lzB,lzC]
    go_simp
    go_at_call 81
    refine (HHO6.out _ (HP6.out.mono (GD).sub)).mono ?_
    rintro e w8 ⟨v8,rfl,ho8,hb8⟩
    obtain ⟨a8,c8,rfl⟩:=owns_form ho8
    have G8:=Lib.hid (Grow.trans GD hb8)
    clear ho8 hb8
    refine HK.out _ _ ⟨.inr (HS.out _ G8.out),?_⟩
    clear HK K
    try simp only [Act.put,lzA,lzB,lzC,lzD,lzE,lzF]
    refine bLc [10] 14 (by kernel_rfl) (fun _ _ _ _ _ h=>h) (HS.out _ G8.out) ?_
    repeat (refine tNc (v:=?_) rfl (by rfl) ?_ ?_;rotate_left;(· (intro w' hSw;(try dsimp only at hSw);obtain ⟨hs0,hs1⟩:=hSw;go_simp <;> with_reducible rfl));try simp only [Act.put,lzA,lzB,lzC,lzD,lzE,lzF])
    refine tEc ?_
    refine bOc 11 (by kernel_rfl) rfl ?_
    intro K HK
    try simp only [lzA,lzB,lzC]
    go_simp
    refine HK.out _ _ ⟨.inl (by decide),?_⟩
    clear HK K
    try simp only [Act.put,lzA,lzB,lzC,lzD,lzE,lzF]
    refine bDc (by kernel_rfl) ?_
    have RB8:=Lib.hid (row_grow RB6.out G8.out)
    have HN8:=Lib.hid (HN6.out.later G8.out)
    obtain ⟨e0,-,-,-⟩:=cells4 RB8.out
    obtain ⟨g7,vp7,e7,-,-,d0,-,-,-,-,-,-⟩:=HN8.out.at_ (by simp) HK6.out
    obtain rfl:g = g7:=by simpa using e7
    dsimp only at d0
    have d1:=(HS.out _ G8.out).2
    have HS7:Hid (∀ W,Grow w8 W→W.cell? ⟨B,0,none⟩ = some (.slice al lg.length cl)∧W.cell? ⟨g,k * 4,none⟩ = some (.int .i64 q.deed)):=fun W hW=>⟨hW.sub _ _ e0,hW.sub _ _ d0⟩
    clear e7 e0 d0 d1
    go_upto_region 4 with fail
    refine bSc (fun w'=>w'.cell? ⟨B,0,none⟩ = some (.slice al lg.length cl)∧w'.cell? ⟨g,k * 4,none⟩ = some (.int .i64 q.deed)) [14] (by kernel_rfl) ?_
    intro wd GD zD
    have ZD:=Lib.hid zD
    clear zD
    refine bLc [0,1,2,3,4,5,6,7,8] 17 (by kernel_rfl) (fun _ _ _ _ _ h=>h) (HS7.out _ GD) ?_
    repeat (refine tNc (v:=?_) rfl (by rfl) ?_ ?_;rotate_left;(· (intro w' hSw;(try dsimp only at hSw);obtain ⟨hs0,hs1⟩:=hSw;go_simp <;> with_reducible rfl));try simp only [Act.put,lzA,lzB,lzC,lzD,lzE,lzF])
    refine tEc ?_
    refine bLc [9] 17 (by kernel_rfl) (fun _ _ _ _ _ h=>h) (HS7.out _ GD) ?_
    repeat (refine tNc (v:=?_) rfl (by rfl) ?_ ?_;rotate_left;(· (intro w' hSw;(try dsimp only at hSw);obtain ⟨hs0,hs1⟩:=hSw;go_simp <;> with_reducible rfl));try simp only [Act.put,lzA,lzB,lzC,lzD,lzE,lzF])
    refine tEc ?_
    refine bOc 10 (by kernel_rfl) rfl ?_
    intro K HK
    try simp only [lzA,lzB,lzC]
    go_simp
    obtain ⟨w10,hw10⟩:∃ y:World,y = wd.alloc (.cells #[.int .i64 6,.int .i64 q.deed,.slice none 0 0] 48):=⟨_,rfl⟩
    have G10:Hid (Grow w8 w10):=Lib.hid (by rw [hw10];exact (GD).alloc _)
    have HN10:=Lib.hid (HN6.out.later (G8.out.trans G10.out))
    have HSR:Hid (Src Ty.rc (fr wz w10 (hro B (.slice al lg.length cl) (.slice (some ⟨g,0,none⟩) L.length co) (L.set k (⟨q.deed,q.parts,q.dec,q.heard ++ [house]⟩,Value.slice a5 (q.heard.length + 1) c5)))) w10 (.slice (some ⟨wd.heap.size,0,none⟩) 1 1) [(⟨6,q.deed,[]⟩:Rc)]):=Lib.hid (by rw [hw10];exact Src.of_new (T:=Ty.rc) (x:=(⟨6,q.deed,[]⟩:Rc)) (cs:=#[.int .i64 6,.int .i64 q.deed,.slice none 0 0]) ⟨_,rfl,(show I64 6 from by unfold I64;decide),HI0.out,Sl.nil _ _⟩ _ _ rfl)
    rw [← hw10]
    clear hw10
    refine HK.out _ _ ⟨.inr (HS7.out _ G10.out),?_⟩
    clear HK K
    try simp only [Act.put,lzA,lzB,lzC,lzD,lzE,lzF]
    refine bOc 11 (by kernel_rfl) rfl ?_
    intro K HK
    refine wanted_go rfl ?_
    try simp only [lzA,lzB,lzC]
    refine wp_appc (c:=(fr wz w10 (hro B (.slice al lg.length cl) (.slice (some ⟨g,0,none⟩) L.length co) (L.set k (⟨q.deed,q.parts,q.dec,q.heard ++ [house]⟩,Value.slice a5 (q.heard.length + 1) c5))))) (base:=wz.heap.size) (l:=lg) (m:=[(⟨6,q.deed,[]⟩:Rc)]) (v:=.slice al lg.length cl) ei_rc rfl one_Trc (by decide) (.tmp 62) (.tmp 68) rfl rfl HN10.out.log rfl HSR.out (by simp;omega) (by have:=HN6.out.grow.size;have:=G8.out.size;have:=G10.out.size;omega) ?_
    intro a9 c9 w11 ho11 hg11 hb11
    have HN11:=Lib.hid (HN10.out.logs hg11 hb11 ho11)
    have HG11:=Lib.hid hg11
    have NB:Hid (some B ≠ (Value.slice al lg.length cl).ownBlock):=Lib.hid (fun e=>by rcases HN6.out.ok.off (i:=0) (j:=1) rfl rfl (by decide) with h | h;exact absurd h (by simp);exact h e)
    have RB11:=Lib.hid (row_by (row_grow RB6.out (G8.out.trans G10.out)) hg11 NB.out)
    have NG:Hid (some g ≠ (Value.slice al lg.length cl).ownBlock):=Lib.hid (fun e=>by rcases HN6.out.ok.off (i:=2) (j:=1) rfl rfl (by decide) with h | h;exact absurd h (by simp [Value.ownBlock]);exact h e)
    have HS11:Hid (w11.cell? ⟨B,0,none⟩ = some (.slice al lg.length cl)∧w11.cell? ⟨g,k * 4,none⟩ = some (.int .i64 q.deed)):=Lib.hid (by
     have hs:=HS7.out w10 G10.out
     exact ⟨HG11.out.cell hs.1 NB.out,HG11.out.cell hs.2 NG.out⟩)
    clear ho11 hg11 hb11
    refine HK.out _ _ ⟨.inr (HS11.out),?_⟩
    clear HK K
    try simp only [Act.put,lzD,lzE,lzF]
    refine bLc [12,13] 17 (by kernel_rfl) (fun _ _ _ _ _ h=>h) (HS11.out) ?_
    repeat (refine tNc (v:=?_) rfl (by rfl) ?_ ?_;rotate_left;(· (intro w' hSw;(try dsimp only at hSw);obtain ⟨hs0,hs1⟩:=hSw;go_simp <;> with_reducible rfl));try simp only [Act.put,lzA,lzB,lzC,lzD,lzE,lzF])
    refine tEc ?_
    refine bOc 14 (by kernel_rfl) rfl ?_
    intro K HK
    refine wanted_go rfl ?_
    try simp only [lzA,lzB,lzC]
    refine wp_store_cell (.tmp 71) (.tmp 69) (v:=.slice a9 (lg.length + 1) c9) (new:=#[.slice a9 (lg.length + 1) c9,.int .i64 boot,.int .i64 next,.slice (some ⟨g,0,none⟩) L.length co]) rfl rfl (by rfl) (by rfl) RB11.out info_rcs (by simp) (by rfl) (by rfl) ?_
    intro w12 r12 g12
    refine HK.out _ _ ⟨.inl (by decide),?_⟩
    clear HK K
    try simp only [Act.put]
    refine bDc (by kernel_rfl) ?_
    have HN12:=Lib.hid (HN11.out.box g12)
    have R12:=Lib.hid r12
    have HZ12:Hid (w.heap.size ≤ w12.heap.size):=Lib.hid (by have:=HZ6.out;have:=G8.out.size;have:=G10.out.size;have:=HG11.out.size;have:=g12.size;omega)
    clear r12 g12
    have HF:Hid (ackO q house = ([],[⟨6,q.deed,[]⟩],[])):=Lib.hid (by unfold ackO;rw [if_pos ⟨HT.out.symm,HMM.out,HNN.out⟩,if_pos HAL.out])
    have HDL:=Lib.hid (delete_oph (k:=k) HN12.out.opn_len (by simpa using HKL.out))
    rw [List.length_set,List.eraseIdx_set_eq] at HDL
    have hk12:(k:Int) + 1 ≤ 13:=by have:=HKL.out;omega
    have hw1:IntKind.i64.wrap ((k:Int) + 1) = (k:Int) + 1:=IntWalk.i64_in _ (by omega)
    obtain ⟨e0,e1,e2,e3⟩:=cells4 R12.out
    have zB:B < w12.heap.size:=(Array.getElem?_eq_some_iff.1 R12.out).1
    go_wp2_with fail
    refine HDL.out.mono ?_
    rintro e w13 ⟨rfl,ho13,hg13⟩
    have HN13:=Lib.hid (HN12.out.erase (k:=k) (vo':=.slice (some ⟨g,0,none⟩) (L.length - 1) co) hg13 rfl (by rw [List.eraseIdx_set_eq];exact ho13))
    have RB13:=Lib.hid (row_by R12.out hg13 (fun e=>by rcases HN6.out.ok.off (i:=0) (j:=2) rfl rfl (by decide) with h | h;exact absurd h (by simp);exact h e))
    have HZ13:Hid (w.heap.size ≤ w13.heap.size):=Lib.hid (by have:=HZ12.out;have:=hg13.size;omega)
    clear ho13 hg13 e0 e1 e2 e3 zB HDL hw1 hk12
    go_wp2_with (first | (refine wpList_store_cell rfl (.tmp 82) (.tmp 80) (v:=.slice (some ⟨g,0,none⟩) (L.length - 1) co) (new:=#[.slice a9 (lg.length + 1) c9,.int .i64 boot,.int .i64 next,.slice (some ⟨g,0,none⟩) (L.length - 1) co]) rfl rfl (by rfl) (by rfl) RB13.out info_opns (by simp) (by rfl) (by rfl) ?_))
    intro w14 r14 g14
    go_wp2
    go_end0
    have z1:=HZ13.out
    have z2:=g14.size
    refine ⟨rfl,_,_,_,r14,by rw [HF.out];exact HN13.out.box g14,?_,by rw [HF.out];exact Sl.nil _ _,by omega⟩
    rw [HF.out,List.eraseIdx_set_eq,List.eraseIdx_eq_take_drop_succ,List.map_append,List.map_take,List.map_drop];rfl
   ·have HNA:=Lib.hid hall
    have hdn:(q.heard.length + 1 == (housesE q.parts).length) = false:=by simp [hall]
    have hdi:((q.heard.length:Int) + 1 == ((housesE q.parts).length:Int)) = false:=by simp;omega
    clear hall
    have HF:Hid (ackO q house = ([⟨q.deed,q.parts,q.dec,q.heard ++ [house]⟩],[],[])):=Lib.hid (by unfold ackO;rw [if_pos ⟨HT.out.symm,HMM.out,HNN.out⟩,if_neg HNA.out])
    have HHO6:=Lib.hid (fun (W:World) (hs:Sl Ty.pt W.cell? (.slice a6 q.parts.length c6) q.parts)=>part_houses W hs (by have:=HPR.out.len;omega) HPR.out.ne HPR.out.lt)
    refine bSc (fun w'=>w'.cell? ⟨g,k * 4 + 3,none⟩ = some (.slice a5 (q.heard.length + 1) c5)∧w'.cell? ⟨g,k * 4 + 1,none⟩ = some (.slice a6 q.parts.length c6)) [11] (by kernel_rfl) ?_
    intro wd GD zD
    have ZD:=Lib.hid zD
    clear zD
    refine bLc [0,1,2,3,4,5,6,7,8] 14 (by kernel_rfl) (fun _ _ _ _ _ h=>h) (HS.out _ GD) ?_
    repeat (refine tNc (v:=?_) rfl (by rfl) ?_ ?_;rotate_left;(· (intro w' hSw;(try dsimp only at hSw);obtain ⟨hs0,hs1⟩:=hSw;go_simp <;> with_reducible rfl));try simp only [Act.put,lzA,lzB,lzC,lzD,lzE,lzF])
    refine tEc ?_
    refine bOc 9 (by kernel_rfl) rfl ?_
    intro K HK
    try simp only [lzA,lzB,lzC]
    go_simp
    go_at_call 81
    refine (HHO6.out _ (HP6.out.mono (GD).sub)).mono ?_
    rintro e w8 ⟨v8,rfl,ho8,hb8⟩
    obtain ⟨a8,c8,rfl⟩:=owns_form ho8
    have G8:=Lib.hid (Grow.trans GD hb8)
    clear ho8 hb8
    refine HK.out _ _ ⟨.inr (HS.out _ G8.out),?_⟩
    clear HK K
    try simp only [Act.put,lzA,lzB,lzC,lzD,lzE,lzF]
    refine bLc [10] 14 (by kernel_rfl) (fun _ _ _ _ _ h=>h) (HS.out _ G8.out) ?_
    repeat (refine tNc (v:=?_) rfl (by rfl) ?_ ?_;rotate_left;(· (intro w' hSw;(try dsimp only at hSw);obtain ⟨hs0,hs1⟩:=hSw;go_simp <;> with_reducible rfl));try simp only [Act.put,lzA,lzB,lzC,lzD,lzE,lzF])
    refine tEc ?_
    refine bOc 11 (by kernel_rfl) rfl ?_
    intro K HK
    try simp only [lzA,lzB,lzC]
    go_simp
    refine HK.out _ _ ⟨.inl (by decide),?_⟩
    clear HK K
    try simp only [Act.put,lzA,lzB,lzC,lzD,lzE,lzF]
    refine bDc (by kernel_rfl) ?_
    go_wp2
    go_end0
    exact ⟨rfl,_,_,_,row_grow RB6.out G8.out,by rw [HF.out,List.append_nil];exact HN6.out.later G8.out,by rw [HF.out];exact HMP.out,by rw [HF.out];exact Sl.nil _ _,by have:=HZ6.out;have:=G8.out.size;omega⟩
  ·have hmb:decide (house ∈ housesE q.parts) = false:=decide_eq_false hm
   have HF:Hid (ackO q house = ([q],[],[])):=Lib.hid (by unfold ackO;rw [if_neg (by simp [hm])])
   clear hm
   go_enter Try.func160,Try.ntmps160
   go_wp2_with fail
   refine (HIN.out _ (Grow.refl _)).mono ?_
   rintro e w1 ⟨rfl,hb1⟩
   have G1:=Lib.hid hb1
   rw [hnb]
   replace c1:=hb1.sub _ _ c1
   clear hb1 hnb c0 c2 c3 b0 b1 b2 b3
   go_wp2_with fail
   refine (HHO.out _ (HPs.out.mono G1.out.sub)).mono ?_
   rintro e w2 ⟨v2,rfl,ho2,hb2⟩
   obtain ⟨a2,c2',rfl⟩:=owns_form ho2
   have HI2:=Lib.hid (ints_of ho2 (houses_ok q.parts))
   have G2:=Lib.hid (G1.out.trans hb2)
   clear ho2 hb2 c1
   go_wp2_with fail
   refine (contains_int (n:=house) _ HI2.out).mono ?_
   rintro e w3 ⟨rfl,hb3⟩
   have G3:=Lib.hid (G2.out.trans hb3)
   rw [hmb]
   clear hb3 hmb
   go_wp2
   refine bodyPost_ret (v:=.tuple #[]) (by simp [results,Try.results160,go_sem]) rfl ?_
   exact ⟨rfl,_,_,L,row_grow HRW.out G3.out,by rw [HF.out,List.append_nil];exact HRR.out.later G3.out,by rw [HF.out];exact HTK.out.symm,by rw [HF.out];exact Sl.nil _ _,(G3.out).size⟩
theorem hearL_no1 {m:Ms}:∀ {l:List Opn},l.findIdx? (fun o=>o.deed == m.deed) = none→hearL m l = none
 | [],_=>rfl
 | o :: l,h=>by
  rw [List.findIdx?_cons] at h
  split at h
  ·cases h
  ·rename_i hn
   rw [hearL,if_neg (fun e=>hn (by simp [e])),hearL_no1 (by simpa using h)];rfl
theorem hearL_at1 {m:Ms}:∀ {l:List Opn} {k:Nat} {q:Opn},l.findIdx? (fun o=>o.deed == m.deed) = some k→l[k]? = some q→hearL m l = some (l.take k ++ ((hearO q m).1 ++ l.drop (k + 1)),(hearO q m).2)∧q.deed = m.deed
 | [],_,_,h,_=>by simp at h
 | o :: l,k,q,h,hq=>by
  rw [List.findIdx?_cons] at h
  split at h
  ·rename_i he
   obtain rfl:=Option.some.inj h
   obtain rfl:=Option.some.inj hq
   have he':o.deed = m.deed:=by simpa using he
   exact ⟨by rw [hearL,if_pos he'];rfl,he'⟩
  ·rename_i hn
   cases k with
   | zero=>simp at h
   | succ k=>
    have h':l.findIdx? (fun o=>o.deed == m.deed) = some k:=by simpa using h
    obtain ⟨e1,e2⟩:=hearL_at1 h' (by simpa using hq)
    exact ⟨by rw [hearL,if_neg (fun e=>hn (by simp [e])),e1];rfl,e2⟩
theorem yesO_hear {o:Opn} {m:Ms} (h:m.kind = 2):hearO o m = yesO o m.house:=by
 unfold hearO yesO
 rw [h]
 by_cases hd:o.dec = true
 ·simp [hd]
 ·have hd':o.dec = false:=by simpa using hd
  simp [hd']
  try (split <;> rfl)
theorem ackO_hear {o:Opn} {m:Ms} (h:m.kind = 6):hearO o m = ackO o m.house:=by
 unfold hearO ackO
 rw [h]
 by_cases hd:o.dec = true
 ·simp [hd]
  try (split <;> rfl)
 ·have hd':o.dec = false:=by simpa using hd
  simp [hd']
theorem one_msg {c:CM} {k d n:Int} (hk:I64 k) (hd:I64 d) (hn:I64 n) (w:World) {b:Nat} (hb:b ≤ w.heap.size):OwnC Ty.ms c (w.alloc (.cells #[.int .i64 k,.int .i64 d,.int .i64 n,.slice none 0 0] 39)) b 39 (.slice (some ⟨w.heap.size,0,none⟩) 1 1) [⟨k,d,n,[]⟩]:=
 ⟨[[.int .i64 k,.int .i64 d,.int .i64 n,.slice none 0 0]],World.ownsRow_lit w #[.int .i64 k,.int .i64 d,.int .i64 n,.slice none 0 0] 1 hb (by decide) rfl,rfl,fun i cs x a b=>by
  match i with
  | 0=>
   simp only [List.getElem?_cons_zero,Option.some.injEq] at a b
   subst a;subst b
   exact ⟨_,rfl,hk,hd,hn,Sl.nil _ _⟩
  | i + 1=>simp at a⟩
theorem ackO_says (o:Opn) (n:Int):(ackO o n).2.2 = []:=by
 unfold ackO
 split
 ·split <;> rfl
 ·rfl
theorem hhear_tells (w:World) (B:Nat) (d:Int) (l:List Opn) (hc:w.cell? ⟨B,1,none⟩ = some (.int .i64 d)) (hB:B < w.heap.size):Tells Try.prog Ty.opn aggOf w 157 #[.pointer (some ⟨B,0,none⟩)] l (fun o=>o.deed == d) where
 ent:=fun args w=>by kernel_rfl
 say:=fun wx cs x hg _ hR=>by
  obtain ⟨vp,vh,rfl,-,hp,hh⟩:=hR
  obtain ⟨ap,cp,rfl,-⟩:=hp
  obtain ⟨ah,ch,rfl,-⟩:=hh
  have hBx:B < wx.heap.size:=Nat.lt_of_lt_of_le hB hg.size
  have hc2:wx.cell? ⟨B,1,none⟩ = some (.int .i64 d):=hg.sub _ _ hc
  clear hc
  show Calls _ _ #[.agg #[.int .i64 x.deed,.slice ap x.parts.length cp,.bool x.dec,.slice ah x.heard.length ch],.pointer (some ⟨B,0,none⟩)] _ _
  go_enter Try.func157,Try.ntmps157
  go_wp2
  go_ret
  exact ⟨rfl,(by repeat (first | with_reducible assumption | with_reducible exact Grow.refl _ | with_reducible apply Grow.drewN | with_reducible apply Grow.drew | with_reducible apply Grow.alloc | (refine Grow.setCell ?_ (by simp;done) _)))⟩
def HearPost (w:World) (h:Hd) (m:Ms) (v1 v2:Value) (w':World):Prop:=Of Ty.hd (ov (fun _=>none) w w') v1 (hHearH h m)∧Sl Ty.ms (ov (fun _=>none) w w') v2 (hHearM h m)∧Grow w w'
theorem HR.fin {w W:World} {B:Nat} {vl vo v2:Value} {h:Hd} {m:Ms} {lg:List Rc} {L:List OpH} (b:HR w W B vl vo lg L) (h1:I64 h.boot) (h2:I64 h.next) (he:hHearH h m = ⟨lg,h.boot,h.next,L.map (·.1)⟩) (hm:Sl Ty.ms (ov (fun _=>none) w W) v2 (hHearM h m)):HearPost w h m (.agg #[vl,.int .i64 h.boot,.int .i64 h.next,vo]) v2 W:=
 ⟨by rw [he];exact b.of h1 h2,hm,b.grow⟩
structure HdInv (h:Hd):Prop where
 parts:∀ o ∈ h.opn,PtsR o.parts
 few:∀ o ∈ h.opn,∀ n,n ∈ housesE o.parts→n ∉ o.heard→o.heard.length + 1 ≤ (housesE o.parts).length
 logp:∀ r ∈ h.log,r.parts.length * 24 ≤ 140737488355328
set_option maxRecDepth 100000 in
set_option maxHeartbeats 40000000 in
theorem whead_hear {v vm:Value} {h:Hd} {m:Ms} (w:World) (hv:Of Ty.hd w.cell? v h) (hm:Of Ty.ms w.cell? vm m) (hk:HdOk h) (hi:HdInv h) :
  Calls Try.prog 112 #[v,vm] w fun e w'=>∃ v1 v2,e = .returned (.tuple #[v1,v2])∧HearPost w h m v1 v2 w':=by
 obtain ⟨al,cl,ar,cr,rfl⟩:=hv.hd_form
 have HMI:Hid (I64 m.kind∧I64 m.deed∧I64 m.house):=Lib.hid (by obtain ⟨cs,he,vp,rfl,i0,i1,i2,-⟩:=hm;exact ⟨i0,i1,i2⟩)
 obtain ⟨ap,cp,rfl⟩:=hm.ms_form
 have HIB:Hid (I64 h.boot∧I64 h.next):=Lib.hid (by obtain ⟨cs,he,_,_,rfl,_,h1,h2,_⟩:=hv;exact ⟨h1,h2⟩)
 have HOW:=Lib.hid (fun (W:World) (hW:Grow w W)=>head_own W (hv.mono hW.sub) hk hi.logp)
 have HKK:=Lib.hid hk
 have HII:=Lib.hid hi
 clear hk hv hi hm
 obtain ⟨wa,hwa⟩:∃ y:World,y = w.alloc (.cells #[.slice al h.log.length cl,.int .i64 h.boot,.int .i64 h.next,.slice ar h.opn.length cr] 57):=⟨_,rfl⟩
 obtain ⟨wb,hwb⟩:∃ y:World,y = wa.alloc (.cells #[.int .i64 m.kind,.int .i64 m.deed,.int .i64 m.house,.slice ap m.parts.length cp] 39):=⟨_,rfl⟩
 obtain ⟨wz,hwz⟩:∃ y:World,y = wb.alloc (.cells #[.slice none 0 0,.int .i64 0,.int .i64 0,.slice none 0 0] 57):=⟨_,rfl⟩
 have hsa:wa.heap.size = w.heap.size + 1:=by rw [hwa];simp
 have hsb:wb.heap.size = w.heap.size + 2:=by rw [hwb];simp [hsa]
 have R1:Hid (wz.heap[w.heap.size]? = some (.cells #[.slice al h.log.length cl,.int .i64 h.boot,.int .i64 h.next,.slice ar h.opn.length cr] 57 (0,0))):=Lib.hid (by rw [hwz,hwb,hwa];exact heap_later (heap_later (row_new _ _) _) _)
 have RM:Hid (wz.heap[w.heap.size + 1]? = some (.cells #[.int .i64 m.kind,.int .i64 m.deed,.int .i64 m.house,.slice ap m.parts.length cp] 39 (0,0))):=Lib.hid (by rw [hwz,hwb,← hsa];exact heap_later (row_new _ _) _)
 have R4:Hid (wz.heap[w.heap.size + 2]? = some (.cells #[.slice none 0 0,.int .i64 0,.int .i64 0,.slice none 0 0] 57 (0,0))):=Lib.hid (by rw [hwz,← hsb];exact row_new _ _)
 have G1:Hid (Grow w wz):=Lib.hid (by rw [hwz,hwb,hwa];exact (((Grow.refl w).alloc _).alloc _).alloc _)
 have HZ:Hid (wz.heap.size = w.heap.size + 3):=Lib.hid (by rw [hwz];simp [hsb])
 go_enter Try.func112,Try.ntmps112
 go_upto_region 1 with fail
 rw [← hwa]
 try rw [hsa]
 rw [← hwb]
 try rw [hsb]
 rw [← hwz]
 clear hwa hwb hwz hsa hsb
 obtain ⟨c0,c1,c2,c3⟩:=cells4 R1.out
 have z1:w.heap.size < wz.heap.size:=(Array.getElem?_eq_some_iff.1 R1.out).1
 go_wp2_with fail
 refine (HOW.out _ G1.out).mono ?_
 rintro e w1 ⟨vl,vo,B0,L,rfl,hl,hr0⟩
 obtain ⟨ag,cg,ao,co,rfl,rfl⟩:=hr0.form
 have HL:=Lib.hid hl
 have HR0:=Lib.hid hr0
 clear hr0 hl c0 c1 c2 c3 z1
 obtain ⟨w2,hw2⟩:∃ y:World,y = w1.alloc (.cells #[.slice ag h.log.length cg,.int .i64 h.boot,.int .i64 h.next,.slice ao L.length co] 57):=⟨_,rfl⟩
 obtain ⟨B6,hB6⟩:∃ y,y = w1.heap.size:=⟨_,rfl⟩
 have R6:Hid (w2.heap[B6]? = some (.cells #[.slice ag h.log.length cg,.int .i64 h.boot,.int .i64 h.next,.slice ao L.length co] 57 (0,0))):=Lib.hid (by rw [hw2,hB6];exact row_new _ _)
 have HRR:Hid (HR wz w2 B6 (.slice ag h.log.length cg) (.slice ao L.length co) h.log L):=Lib.hid (HR0.out.rebox (by rw [hw2];exact (Grow.refl _).alloc _) (by omega) (by rw [hw2,hB6];simp))
 have RM2:=Lib.hid (row_grow RM.out HRR.out.grow)
 go_upto_region 2 with fail
 rw [← hw2,← hB6]
 clear hw2 hB6
 obtain ⟨d0,d1,d2,d3⟩:=cells4 R6.out
 obtain ⟨m0,m1,m2,m3⟩:=cells4 RM2.out
 have z6:B6 < w2.heap.size:=(Array.getElem?_eq_some_iff.1 R6.out).1
 have zm:w.heap.size + 1 < w2.heap.size:=(Array.getElem?_eq_some_iff.1 RM2.out).1
 have HIX:=Lib.hid (indexFunc_opn (p:=fun o=>o.deed == m.deed) w2 (HRR.out.opns.slc (d:=w2.cell?) (by decide) (fun a v e=>by unfold ov at e;split at e;cases e;exact e) fun _ _=>rfl) (hhear_tells w2 (w.heap.size + 1) m.deed _ m1 zm))
 rw [HL.out] at HIX
 go_wp2_with fail
 refine HIX.out.mono ?_
 rintro e w3 ⟨rfl,hb3⟩
 have HR3:=Lib.hid (HRR.out.later hb3)
 have R63:=Lib.hid (row_grow R6.out hb3)
 have RM3:=Lib.hid (row_grow RM2.out hb3)
 have R43:=Lib.hid (row_grow R4.out HR3.out.grow)
 have RMZ:=Lib.hid RM.out
 clear hb3 d0 d1 d2 d3 m0 m1 m2 m3 z6 zm HIX R6 RM2 HRR HR0 R1 RM
 have HS:Hid (∀ W,Grow w3 W→W.cell? ⟨B6,0,none⟩ = some (.slice ag h.log.length cg)∧W.cell? ⟨B6,1,none⟩ = some (.int .i64 h.boot)∧W.cell? ⟨B6,2,none⟩ = some (.int .i64 h.next)∧W.cell? ⟨B6,3,none⟩ = some (.slice ao L.length co)∧W.cell? ⟨w.heap.size + 1,1,none⟩ = some (.int .i64 m.deed)∧W.cell? ⟨w.heap.size + 1,2,none⟩ = some (.int .i64 m.house)):=fun W hW=>by
  obtain ⟨j0,j1,j2,j3⟩:=cells4 (row_grow R63.out hW)
  obtain ⟨-,k1,k2,-⟩:=cells4 (row_grow RM3.out hW)
  exact ⟨j0,j1,j2,j3,k1,k2⟩
 have HB6:Hid (wz.heap.size ≤ B6∧B6 < w3.heap.size):=Lib.hid (HR3.out.ok.lt B6 (by simp [hro]))
 obtain ⟨d0,d1,d2,d3⟩:=cells4 R63.out
 obtain ⟨m0,m1,m2,m3⟩:=cells4 RM3.out
 have z6:B6 < w3.heap.size:=(Array.getElem?_eq_some_iff.1 R63.out).1
 have zm:w.heap.size + 1 < w3.heap.size:=(Array.getElem?_eq_some_iff.1 RM3.out).1
 have zr:w.heap.size + 2 < w3.heap.size:=(Array.getElem?_eq_some_iff.1 R43.out).1
 cases hfi:h.opn.findIdx? (fun o=>o.deed == m.deed) with
 | none=>
  have hx:idxOf (fun o:Opn=>o.deed == m.deed) h.opn = -1:=by rw [idxOf,hfi]
  have HLN:=Lib.hid (hearL_no1 hfi)
  have HE:Hid (hHearH h m = ⟨h.log,h.boot,h.next,L.map (·.1)⟩):=Lib.hid (by unfold hHearH;rw [HLN.out,HL.out])
  rw [hx]
  clear hx hfi
  by_cases hkd:m.kind = 7
  ·have HMS:Hid (hHearM h m = [⟨5,m.deed,m.house,[]⟩]):=Lib.hid (by unfold hHearM;rw [HLN.out,if_pos hkd])
   have hk2:(m.kind == 2) = false:=by simp [hkd]
   have hk3:(m.kind == 3) = false:=by simp [hkd]
   have hk6:(m.kind == 6) = false:=by simp [hkd]
   have hk7:(m.kind == 7) = true:=by simp [hkd]
   clear hkd
   go_upto_region 13 with fail
   clear d0 d1 d2 d3 m0 m1 m2 m3 z6 zm zr
   refine bSc (fun w'=>w'.cell? ⟨B6,0,none⟩ = some (.slice ag h.log.length cg)∧w'.cell? ⟨B6,1,none⟩ = some (.int .i64 h.boot)∧w'.cell? ⟨B6,2,none⟩ = some (.int .i64 h.next)∧w'.cell? ⟨B6,3,none⟩ = some (.slice ao L.length co)∧w'.cell? ⟨w.heap.size + 1,1,none⟩ = some (.int .i64 m.deed)∧w'.cell? ⟨w.heap.size + 1,2,none⟩ = some (.int .i64 m.house)) [8] (by kernel_rfl) ?_
   intro wd GD zD
   have ZD:=Lib.hid zD
   clear zD
   refine bLc [0,1,2,3,4,5] 11 (by kernel_rfl) (fun _ _ _ _ _ h=>h) (HS.out _ GD) ?_
   repeat (refine tNc (v:=?_) rfl (by rfl) ?_ ?_;rotate_left;(· (intro w' hSw;(try dsimp only at hSw);obtain ⟨hs0,hs1,hs2,hs3,hs4,hs5⟩:=hSw;go_simp <;> with_reducible rfl));try simp only [Act.put,lzA,lzB,lzC,lzD,lzE,lzF])
   refine tEc ?_
   refine bPc 6 7 (by kernel_rfl) rfl rfl ?_ ?_
   ·intro K HK
    try simp only [lzA,lzB,lzC]
    go_simp
    obtain ⟨wy,hwy⟩:∃ y:World,y = wd.alloc (.cells #[.int .i64 5,.int .i64 m.deed,.int .i64 m.house,.slice none 0 0] 39):=⟨_,rfl⟩
    obtain ⟨BY,hBY⟩:∃ y,y = wd.heap.size:=⟨_,rfl⟩
    have HMO:Hid (OwnC Ty.ms (fun _=>none) wy wz.heap.size 39 (.slice (some ⟨BY,0,none⟩) 1 1) [⟨5,m.deed,m.house,[]⟩]):=Lib.hid (by rw [hwy,hBY];exact one_msg (by unfold I64;decide) HMI.out.2.1 HMI.out.2.2 _ (by have:=HB6.out;have:=GD.size;omega))
    have GY:Grow wd wy:=by rw [hwy];exact (Grow.refl _).alloc _
    rw [← hwy,← hBY]
    clear hwy hBY
    refine HK.out _ _ ⟨.inr (HS.out _ (GD.trans GY)),?_⟩
    clear HK K
    try simp only [Act.put,lzA,lzB,lzC,lzD,lzE,lzF]
    refine bOc 7 (by kernel_rfl) rfl ?_
    intro K HK
    refine wanted_go rfl ?_
    try simp only [lzA,lzB,lzC]
    refine wp_store_row (.tmp 4) (.tmp 85) rfl rfl rfl (row_grow R43.out (GD.trans GY)) info_hd rfl rfl ?_
    intro w7 r7 g7
    have HX7:=Lib.hid ((HR3.out.later (GD.trans GY)).past G1.out g7 (by have:=HZ.out;omega))
    have R67:=Lib.hid (row_by (row_grow R63.out (GD.trans GY)) g7 (fun e=>by have:=Option.some.inj e;have:=HB6.out;have:=HZ.out;omega))
    have RM7:=Lib.hid (row_by (row_grow RM3.out (GD.trans GY)) g7 (fun e=>by have:=Option.some.inj e;omega))
    have HMO2:=Lib.hid (HMO.out.kept g7 (off_of fun q hq=>by have:=(HMO.out.lt q hq).1;have:=HZ.out;omega))
    obtain ⟨p0,p1,p2,p3⟩:=cells4 r7
    refine HK.out _ _ ⟨.inr (by obtain ⟨j0,j1,j2,j3⟩:=cells4 R67.out;obtain ⟨-,k1,k2,-⟩:=cells4 RM7.out;exact ⟨j0,j1,j2,j3,k1,k2⟩),?_⟩
    clear HK K
    try simp only [Act.put]
    refine bOc 8 (by kernel_rfl) rfl ?_
    intro K HK
    try simp only [lzA,lzB,lzC]
    go_simp
    refine HK.out _ _ ⟨.inl (by decide),?_⟩
    clear HK K
    try simp only [Act.put,lzA,lzB,lzC,lzD,lzE,lzF]
    refine bDc (by kernel_rfl) ?_
    go_wp2
    refine bodyPost_ret (v:=.tuple #[.agg #[.slice ag h.log.length cg,.int .i64 h.boot,.int .i64 h.next,.slice ao L.length co],.slice (some ⟨BY,0,none⟩) 1 1]) (by simp [results,Try.results112,go_sem,p0,p1,p2,p3]) rfl ?_
    exact ⟨_,_,rfl,HX7.out.fin HIB.out.1 HIB.out.2 HE.out (by rw [HMS.out];exact HMO2.out.slc (by decide) (fun _ _ e=>by cases e) fun a ha=>ov_new (by have:=HZ.out;omega))⟩
   ·intro K HK
    refine wanted_go rfl ?_
    try simp only [lzA,lzB,lzC]
    refine wp_store_row (.tmp 4) (.tmp 85) rfl rfl rfl (row_grow R43.out GD) info_hd rfl rfl ?_
    intro w7 r7 g7
    have HX7:=Lib.hid ((HR3.out.later GD).past G1.out g7 (by have:=HZ.out;omega))
    have R67:=Lib.hid (row_by (row_grow R63.out GD) g7 (fun e=>by have:=Option.some.inj e;have:=HB6.out;have:=HZ.out;omega))
    have RM7:=Lib.hid (row_by (row_grow RM3.out GD) g7 (fun e=>by have:=Option.some.inj e;omega))
    refine HK.out _ _ ⟨.inr (by obtain ⟨j0,j1,j2,j3⟩:=cells4 R67.out;obtain ⟨-,k1,k2,-⟩:=cells4 RM7.out;exact ⟨j0,j1,j2,j3,k1,k2⟩),?_⟩
    clear HK K
    try simp only [Act.put]
    refine bOc 6 (by kernel_rfl) rfl ?_
    intro K HK
    try simp only [lzA,lzB,lzC]
    go_simp
    obtain ⟨wy,hwy⟩:∃ y:World,y = w7.alloc (.cells #[.int .i64 5,.int .i64 m.deed,.int .i64 m.house,.slice none 0 0] 39):=⟨_,rfl⟩
    obtain ⟨BY,hBY⟩:∃ y,y = w7.heap.size:=⟨_,rfl⟩
    have HMO:Hid (OwnC Ty.ms (fun _=>none) wy wz.heap.size 39 (.slice (some ⟨BY,0,none⟩) 1 1) [⟨5,m.deed,m.house,[]⟩]):=Lib.hid (by rw [hwy,hBY];exact one_msg (by unfold I64;decide) HMI.out.2.1 HMI.out.2.2 _ (by have:=HB6.out;have:=GD.size;have:=g7.size;omega))
    have GY:Grow w7 wy:=by rw [hwy];exact (Grow.refl _).alloc _
    rw [← hwy,← hBY]
    clear hwy hBY
    have HX9:=Lib.hid (HX7.out.later GY)
    obtain ⟨p0,p1,p2,p3⟩:=cells4 (row_grow r7 GY)
    refine HK.out _ _ ⟨.inr (by obtain ⟨j0,j1,j2,j3⟩:=cells4 (row_grow R67.out GY);obtain ⟨-,k1,k2,-⟩:=cells4 (row_grow RM7.out GY);exact ⟨j0,j1,j2,j3,k1,k2⟩),?_⟩
    clear HK K
    try simp only [Act.put,lzA,lzB,lzC,lzD,lzE,lzF]
    refine bOc 8 (by kernel_rfl) rfl ?_
    intro K HK
    try simp only [lzA,lzB,lzC]
    go_simp
    refine HK.out _ _ ⟨.inl (by decide),?_⟩
    clear HK K
    try simp only [Act.put,lzA,lzB,lzC,lzD,lzE,lzF]
    refine bDc (by kernel_rfl) ?_
    go_wp2
    refine bodyPost_ret (v:=.tuple #[.agg #[.slice ag h.log.length cg,.int .i64 h.boot,.int .i64 h.next,.slice ao L.length co],.slice (some ⟨BY,0,none⟩) 1 1]) (by simp [results,Try.results112,go_sem,p0,p1,p2,p3]) rfl ?_
    exact ⟨_,_,rfl,HX9.out.fin HIB.out.1 HIB.out.2 HE.out (by rw [HMS.out];exact HMO.out.slc (by decide) (fun _ _ e=>by cases e) fun a ha=>ov_new (by have:=HZ.out;omega))⟩
  ·have HMS:Hid (hHearM h m = []):=Lib.hid (by unfold hHearM;rw [HLN.out,if_neg hkd])
   have hk7:(m.kind == 7) = false:=by simp [hkd]
   have hcs:m.kind = 2 ∨ m.kind = 3 ∨ m.kind = 6 ∨ (m.kind ≠ 2∧m.kind ≠ 3∧m.kind ≠ 6):=by omega
   obtain ⟨b2,b3,b6,hk2,hk3,hk6,hb⟩:∃ b2 b3 b6:Bool,(m.kind == 2) = b2∧(m.kind == 3) = b3∧(m.kind == 6) = b6∧((b2 = true∧b3 = false∧b6 = false) ∨ (b2 = false∧b3 = true∧b6 = false) ∨ (b2 = false∧b3 = false∧b6 = true) ∨ (b2 = false∧b3 = false∧b6 = false)):=
    ⟨_,_,_,rfl,rfl,rfl,by rcases hcs with h | h | h | ⟨h,h',h''⟩ <;> simp [*]⟩
   clear hkd hcs
   rcases hb with ⟨rfl,rfl,rfl⟩ | ⟨rfl,rfl,rfl⟩ | ⟨rfl,rfl,rfl⟩ | ⟨rfl,rfl,rfl⟩
   all_goals
    go_upto_region 16 with fail
    go_wp2_with (first | (refine wpList_store_row rfl (.tmp 4) (.tmp 111) rfl rfl rfl R43.out info_hd rfl rfl ?_))
    intro w7 r7 g7
    obtain ⟨p0,p1,p2,p3⟩:=cells4 r7
    go_wp2
    refine bodyPost_ret (v:=.tuple #[.agg #[.slice ag h.log.length cg,.int .i64 h.boot,.int .i64 h.next,.slice ao L.length co],.slice none 0 0]) (by simp [results,Try.results112,go_sem,p0,p1,p2,p3]) rfl ?_
    exact ⟨_,_,rfl,(HR3.out.past G1.out g7 (by have:=HZ.out;omega)).fin HIB.out.1 HIB.out.2 HE.out (by rw [HMS.out];exact Sl.nil _ _)⟩
 | some k=>
  have hx:idxOf (fun o:Opn=>o.deed == m.deed) h.opn = k:=by rw [idxOf,hfi]
  have hkl:k < h.opn.length:=(List.findIdx?_eq_some_iff_getElem.1 hfi).1
  have hLl:L.length = h.opn.length:=by rw [← HL.out];simp
  obtain ⟨x,hxk⟩:∃ x,L[k]? = some x:=⟨_,List.getElem?_eq_getElem (by omega)⟩
  have hq:h.opn[k]? = some x.1:=by rw [← HL.out,List.getElem?_map,hxk];rfl
  obtain ⟨hln,hdd⟩:=hearL_at1 hfi hq
  have HQM:=Lib.hid (List.mem_of_getElem? hq)
  have HHH:Hid (hHearH h m = { h with opn:=h.opn.take k ++ ((hearO x.1 m).1 ++ h.opn.drop (k + 1)),log:=h.log ++ (hearO x.1 m).2.1 }):=Lib.hid (by unfold hHearH;rw [hln])
  have HHM:Hid (hHearM h m = (hearO x.1 m).2.2):=Lib.hid (by unfold hHearM;rw [hln])
  have HSAME:Hid (h.opn.take k ++ ([x.1] ++ h.opn.drop (k + 1)) = L.map (·.1)):=Lib.hid (by
   have e2:h.opn[k] = x.1:=(List.getElem?_eq_some_iff.1 hq).2
   rw [← e2,List.singleton_append,← List.drop_eq_getElem_cons hkl,List.take_append_drop,HL.out])
  have HXK:=Lib.hid hxk
  have HDD:=Lib.hid hdd
  have HKL:=Lib.hid hkl
  have HLL:=Lib.hid hLl
  have HPR:=Lib.hid (HII.out.parts _ HQM.out)
  have HFW:=Lib.hid (HII.out.few _ HQM.out m.house)
  have h12:=HKK.out.opn
  rw [hx]
  clear hx hfi hq hln hdd hxk hLl
  have hk0:(0:Int) ≤ (k:Int):=by omega
  by_cases hkd:m.kind = 2
  ·have hk2:(m.kind == 2) = true:=by simp [hkd]
   have hk3:(m.kind == 3) = false:=by simp [hkd]
   have hk6:(m.kind == 6) = false:=by simp [hkd]
   have hk7:(m.kind == 7) = false:=by simp [hkd]
   have HYO:Hid (hearO x.1 m = yesO x.1 m.house):=Lib.hid (yesO_hear hkd)
   clear hkd
   have HLL2:Hid (h.log.length ≤ 100000):=Lib.hid HKK.out.log
   go_wp2_with fail
   refine (head_yes (house:=m.house) w3 HR3.out R63.out HXK.out HPR.out HMI.out.2.2 HLL2.out (by have:=HLL.out;omega) (HKK.out.heard _ HQM.out) HFW.out).mono ?_
   rintro e w4 ⟨v4,rfl,vl4,vo4,L4,r4,hr4,hmp,hms,hsz⟩
   obtain ⟨ag4,cg4,ao4,co4,rfl,rfl⟩:=hr4.form
   obtain ⟨a4,c4,rfl,-⟩:=id hms
   have HR4:=Lib.hid hr4
   have HMP:=Lib.hid hmp
   have HMS:=Lib.hid hms
   have HSZ:=Lib.hid hsz
   have R64:=Lib.hid r4
   have R44:=Lib.hid (row_grow R4.out hr4.grow)
   clear hr4 hmp hms hsz r4
   clear d0 d1 d2 d3 m0 m1 m2 m3 z6 zm zr
   obtain ⟨d0,d1,d2,d3⟩:=cells4 R64.out
   have z6:B6 < w4.heap.size:=(Array.getElem?_eq_some_iff.1 R64.out).1
   have zr:w.heap.size + 2 < w4.heap.size:=(Array.getElem?_eq_some_iff.1 R44.out).1
   generalize hlg:h.log ++ (yesO x.1 m.house).2.1 = lg4 at *
   have HLG:=Lib.hid hlg
   clear hlg
   generalize hmq:(yesO x.1 m.house).2.2 = ms4 at *
   have HMQ:=Lib.hid hmq
   clear hmq
   go_wp2_with (first | (refine wpList_store_row rfl (.tmp 4) (.tmp 28) rfl rfl rfl R44.out info_hd rfl rfl ?_))
   intro w7 r7 g7
   obtain ⟨p0,p1,p2,p3⟩:=cells4 r7
   go_wp2
   refine bodyPost_ret (v:=.tuple #[.agg #[.slice ag4 lg4.length cg4,.int .i64 h.boot,.int .i64 h.next,.slice ao4 L4.length co4],.slice a4 ms4.length c4]) (by simp [results,Try.results112,go_sem,p0,p1,p2,p3]) rfl ?_
   have z:=HZ.out
   have z2:=HB6.out
   have z3:=HSZ.out
   refine ⟨_,_,rfl,(HR4.out.past G1.out g7 (by omega)).fin HIB.out.1 HIB.out.2 (by rw [HHH.out,HYO.out,HLG.out,← HL.out,← HMP.out]) ?_⟩
   rw [HHM.out,HYO.out,HMQ.out]
   refine Sl.mono (fun a v e=>?_) HMS.out
   unfold ov at e
   split at e
   ·cases e
   ·rw [ov_new (by omega),by_cell g7 (World.block_lt_of_cell? w4 a e) (by omega)];exact e
  have hkd2:=hkd
  clear hkd
  by_cases hkd:m.kind = 6
  ·have hk2:(m.kind == 2) = false:=by simp [hkd]
   have hk3:(m.kind == 3) = false:=by simp [hkd]
   have hk6:(m.kind == 6) = true:=by simp [hkd]
   have hk7:(m.kind == 7) = false:=by simp [hkd]
   have HYO:Hid (hearO x.1 m = ackO x.1 m.house):=Lib.hid (ackO_hear hkd)
   clear hkd
   have HLL2:Hid (h.log.length ≤ 100000):=Lib.hid HKK.out.log
   go_wp2_with fail
   refine (head_ack (house:=m.house) w3 HR3.out R63.out HXK.out HPR.out HMI.out.2.2 HLL2.out (by have:=HLL.out;omega) (HKK.out.heard _ HQM.out) HFW.out).mono ?_
   rintro e w4 ⟨rfl,vl4,vo4,L4,r4,hr4,hmp,-,hsz⟩
   obtain ⟨ag4,cg4,ao4,co4,rfl,rfl⟩:=hr4.form
   have HR4:=Lib.hid hr4
   have HMP:=Lib.hid hmp
   have HSZ:=Lib.hid hsz
   have R64:=Lib.hid r4
   have R44:=Lib.hid (row_grow R4.out hr4.grow)
   have RM4:Hid (w4.heap[w.heap.size + 1]? = some (.cells #[.int .i64 m.kind,.int .i64 m.deed,.int .i64 m.house,.slice ap m.parts.length cp] 39 (0,0))):=Lib.hid (row_grow RMZ.out hr4.grow)
   clear hr4 hmp hsz r4
   clear d0 d1 d2 d3 m0 m1 m2 m3 z6 zm zr
   obtain ⟨d0,d1,d2,d3⟩:=cells4 R64.out
   have z6:B6 < w4.heap.size:=(Array.getElem?_eq_some_iff.1 R64.out).1
   have zr:w.heap.size + 2 < w4.heap.size:=(Array.getElem?_eq_some_iff.1 R44.out).1
   obtain ⟨m0,m1,m2,m3⟩:=cells4 RM4.out
   have zm:w.heap.size + 1 < w4.heap.size:=(Array.getElem?_eq_some_iff.1 RM4.out).1
   generalize hlg:h.log ++ (ackO x.1 m.house).2.1 = lg4 at *
   have HLG:=Lib.hid hlg
   clear hlg
   go_upto_region 16 with fail
   go_wp2_with (first | (refine wpList_store_row rfl (.tmp 4) (.tmp 111) rfl rfl rfl R44.out info_hd rfl rfl ?_))
   intro w7 r7 g7
   obtain ⟨p0,p1,p2,p3⟩:=cells4 r7
   go_wp2
   refine bodyPost_ret (v:=.tuple #[.agg #[.slice ag4 lg4.length cg4,.int .i64 h.boot,.int .i64 h.next,.slice ao4 L4.length co4],.slice none 0 0]) (by simp [results,Try.results112,go_sem,p0,p1,p2,p3]) rfl ?_
   have z:=HZ.out
   have z2:=HB6.out
   have z3:=HSZ.out
   refine ⟨_,_,rfl,(HR4.out.past G1.out g7 (by omega)).fin HIB.out.1 HIB.out.2 (by rw [HHH.out,HYO.out,HLG.out,← HL.out,← HMP.out]) ?_⟩
   rw [HHM.out,HYO.out,ackO_says]
   exact Sl.nil _ _
  obtain ⟨q,xv⟩:=x
  dsimp only at HQM HHH HHM HSAME HDD HPR HFW
  obtain ⟨g,vp,e1,hg1,hg2,g0,g1,g2,g3,-,hP,-⟩:=HR3.out.at_ rfl HXK.out
  subst e1
  obtain ⟨a7,c7,rfl,-⟩:=id hP
  dsimp only at g0 g1 g2 g3 hP
  have HP:=Lib.hid hP
  have HKN2:=Lib.hid hkd2
  have HKN6:=Lib.hid hkd
  have hk2:(m.kind == 2) = false:=by simp [hkd2]
  have hk6:(m.kind == 6) = false:=by simp [hkd]
  obtain ⟨t,ht⟩:∃ t,t = q.dec:=⟨_,rfl⟩
  rw [← ht] at g2
  have HT:=Lib.hid ht
  have hkll:k < L.length:=by have:=HLL.out;have:=HKL.out;omega
  clear ht hkd2 g0 g3 hP
  clear hkd
  by_cases hkd:m.kind = 3
  ·have hk3:(m.kind == 3) = true:=by simp [hkd]
   have hk7:(m.kind == 7) = false:=by simp [hkd]
   cases t with
   | true=>
    have HYO:Hid (hearO q m = ([q],[],[])):=Lib.hid (by unfold hearO;rw [if_neg (by rw [hkd];simp),if_neg (by rw [← HT.out];simp),if_neg (by rw [hkd];simp),if_neg (by rw [hkd];simp)])
    have HE:Hid (hHearH h m = ⟨h.log,h.boot,h.next,L.map (·.1)⟩):=Lib.hid (by rw [HHH.out,HYO.out,List.append_nil,HSAME.out])
    have HMS:Hid (hHearM h m = []):=Lib.hid (by rw [HHM.out,HYO.out])
    clear hkd g1
    go_upto_region 16 with fail
    go_wp2_with (first | (refine wpList_store_row rfl (.tmp 4) (.tmp 111) rfl rfl rfl R43.out info_hd rfl rfl ?_))
    intro w7 r7 g7
    obtain ⟨p0,p1,p2,p3⟩:=cells4 r7
    go_wp2
    refine bodyPost_ret (v:=.tuple #[.agg #[.slice ag h.log.length cg,.int .i64 h.boot,.int .i64 h.next,.slice (some ⟨g,0,none⟩) L.length co],.slice none 0 0]) (by simp [results,Try.results112,go_sem,p0,p1,p2,p3]) rfl ?_
    exact ⟨_,_,rfl,(HR3.out.past G1.out g7 (by have:=HZ.out;omega)).fin HIB.out.1 HIB.out.2 HE.out (by rw [HMS.out];exact Sl.nil _ _)⟩
   | false=>
    have HYO:Hid (hearO q m = ([],[],abortsE q.deed q.parts)):=Lib.hid (by unfold hearO;rw [if_neg (by rw [hkd];simp),if_pos ⟨hkd,HT.out.symm⟩])
    have HDL:=Lib.hid (delete_oph (k:=k) HR3.out.opn (by have:=HLL.out;have:=HKL.out;omega))
    have hk12:(k:Int) + 1 ≤ 13:=by have:=HKL.out;omega
    have hw1:IntKind.i64.wrap ((k:Int) + 1) = (k:Int) + 1:=IntWalk.i64_in _ (by omega)
    clear hkd
    go_upto_region 8 with fail
    go_wp2_with fail
    (with_reducible refine HDL.out.mono ?_)
    rintro e w4 ⟨rfl,ho4,hg4⟩
    have HN4:=Lib.hid (HR3.out.erase (k:=k) (vo':=.slice (some ⟨g,0,none⟩) (L.length - 1) co) hg4 rfl ho4)
    have HNE:Hid (some B6 ≠ some g):=Lib.hid (fun e=>by rcases HR3.out.ok.off (i:=0) (j:=2) rfl rfl (by decide) with h | h;exact absurd h (by simp);exact h e)
    have R64:=Lib.hid (row_by R63.out hg4 HNE.out)
    have RM4:=Lib.hid (row_grow RMZ.out HN4.out.grow)
    have HP4:=Lib.hid (HP.out.mono (fr_step fun p hp h0 hx=>⟨hg4.block p hp (fun e=>hx (by rw [e];simp [hro,Value.ownBlock])),hx⟩))
    clear ho4 hg4 HDL hw1 hk12 hkll d0 d1 d2 d3 m0 m1 m2 m3 z6 zm zr g1 g2
    obtain ⟨d0,d1,d2,d3⟩:=cells4 R64.out
    have z6:B6 < w4.heap.size:=(Array.getElem?_eq_some_iff.1 R64.out).1
    go_wp2_with (first | (refine wpList_store_cell rfl (.tmp 59) (.tmp 58) (v:=.slice (some ⟨g,0,none⟩) (L.length - 1) co) (new:=#[.slice ag h.log.length cg,.int .i64 h.boot,.int .i64 h.next,.slice (some ⟨g,0,none⟩) (L.length - 1) co]) rfl rfl (by rfl) (by rfl) R64.out info_opns (by simp) (by rfl) (by rfl) ?_))
    intro w5 r5 g5
    have HN5:=Lib.hid (HN4.out.box g5)
    have R65:=Lib.hid r5
    have RM5:=Lib.hid (row_grow RMZ.out HN5.out.grow)
    have R45:=Lib.hid (row_grow R4.out HN5.out.grow)
    have HP5:=Lib.hid ((HP4.out.mono (fr_step fun p hp h0 hx=>⟨g5.block p hp (fun e=>hx (by rw [e];simp [hro])),hx⟩)).mono (fr_sub _ _ _))
    have HAB:=Lib.hid (fun (W:World) (hW:Grow w5 W)=>head_aborts (d:=m.deed) W (HP5.out.mono hW.sub) HMI.out.2.1 HPR.out)
    clear HS r5 g5 d0 d1 d2 d3 z6
    have HS:Hid (∀ W,Grow w5 W→W.cell? ⟨B6,0,none⟩ = some (.slice ag h.log.length cg)∧W.cell? ⟨B6,1,none⟩ = some (.int .i64 h.boot)∧W.cell? ⟨B6,2,none⟩ = some (.int .i64 h.next)∧W.cell? ⟨B6,3,none⟩ = some (.slice (some ⟨g,0,none⟩) (L.length - 1) co)∧W.cell? ⟨w.heap.size + 1,1,none⟩ = some (.int .i64 m.deed)):=fun W hW=>by
     obtain ⟨j0,j1,j2,j3⟩:=cells4 (row_grow R65.out hW)
     obtain ⟨-,k1,-,-⟩:=cells4 (row_grow RM5.out hW)
     exact ⟨j0,j1,j2,j3,k1⟩
    go_upto_region 9 with fail
    refine bSc (fun w'=>w'.cell? ⟨B6,0,none⟩ = some (.slice ag h.log.length cg)∧w'.cell? ⟨B6,1,none⟩ = some (.int .i64 h.boot)∧w'.cell? ⟨B6,2,none⟩ = some (.int .i64 h.next)∧w'.cell? ⟨B6,3,none⟩ = some (.slice (some ⟨g,0,none⟩) (L.length - 1) co)∧w'.cell? ⟨w.heap.size + 1,1,none⟩ = some (.int .i64 m.deed)) [5,6] (by kernel_rfl) ?_
    intro wd GD zD
    have ZD:=Lib.hid zD
    clear zD
    refine bLc [0,1,2,3] 9 (by kernel_rfl) (fun _ _ _ _ _ h=>h) (HS.out _ GD) ?_
    repeat (refine tNc (v:=?_) rfl (by rfl) ?_ ?_;rotate_left;(· (intro w' hSw;(try dsimp only at hSw);obtain ⟨hs0,hs1,hs2,hs3,hs4⟩:=hSw;go_simp <;> with_reducible rfl));try simp only [Act.put,lzA,lzB,lzC,lzD,lzE,lzF])
    refine tEc ?_
    refine bOc 4 (by kernel_rfl) rfl ?_
    intro K HK
    try simp only [lzA,lzB,lzC]
    go_simp
    go_at_call 151
    refine (HAB.out _ GD).mono ?_
    rintro e w6 ⟨v6,rfl,ho6,hb6⟩
    obtain ⟨a6,c6,rfl⟩:=ho6.form
    have HO6:=Lib.hid ho6
    have G6:=Lib.hid (Grow.trans GD hb6)
    clear ho6 hb6
    generalize hmq:abortsE m.deed q.parts = ms4 at *
    have HMQ:=Lib.hid hmq
    clear hmq
    refine HK.out _ _ ⟨.inr (HS.out _ G6.out),?_⟩
    clear HK K
    try simp only [Act.put,lzA,lzB,lzC,lzD,lzE,lzF]
    refine bOc 5 (by kernel_rfl) rfl ?_
    intro K HK
    refine wanted_go rfl ?_
    try simp only [lzA,lzB,lzC]
    refine wp_store_row (.tmp 4) (.tmp 60) rfl rfl rfl (row_grow R45.out G6.out) info_hd rfl rfl ?_
    intro w7 r7 g7
    obtain ⟨p0,p1,p2,p3⟩:=cells4 r7
    refine HK.out _ _ ⟨.inl (by decide),?_⟩
    clear HK K
    try simp only [Act.put]
    refine bOc 6 (by kernel_rfl) rfl ?_
    intro K HK
    try simp only [lzA,lzB,lzC]
    go_simp
    refine HK.out _ _ ⟨.inl (by decide),?_⟩
    clear HK K
    try simp only [Act.put,lzA,lzB,lzC,lzD,lzE,lzF]
    refine bDc (by kernel_rfl) ?_
    go_wp2
    refine bodyPost_ret (v:=.tuple #[.agg #[.slice ag h.log.length cg,.int .i64 h.boot,.int .i64 h.next,.slice (some ⟨g,0,none⟩) (L.length - 1) co],.slice a6 ms4.length c6]) (by simp [results,Try.results112,go_sem,p0,p1,p2,p3]) rfl ?_
    have z:=HZ.out
    refine ⟨_,_,rfl,((HN5.out.later G6.out).past G1.out g7 (by omega)).fin HIB.out.1 HIB.out.2 ?_ ?_⟩
    ·rw [HHH.out,HYO.out,List.append_nil,List.eraseIdx_eq_take_drop_succ,List.map_append,List.map_take,List.map_drop,HL.out];rfl
    ·rw [HHM.out,HYO.out,HDD.out,HMQ.out]
     have z5:=HN5.out.grow.size
     have z6:=GD.size
     exact (HO6.out.kept g7 (off_of fun p hp=>by have:=(HO6.out.lt p hp).1;omega)).slc (by decide) (fun _ _ e=>by cases e) fun a ha=>ov_new (by omega)
  have hk3:(m.kind == 3) = false:=by simp [hkd]
  have HKN3:=Lib.hid hkd
  clear hkd
  by_cases hkd:m.kind = 7
  ·have hk7:(m.kind == 7) = true:=by simp [hkd]
   cases t with
   | true=>
    have HYO:Hid (hearO q m = ([q],[],[⟨4,m.deed,m.house,[]⟩])):=Lib.hid (by unfold hearO;rw [if_neg (fun e=>HKN2.out e.1),if_neg (fun e=>HKN3.out e.1),if_neg (fun e=>HKN6.out e.1),if_pos ⟨hkd,HT.out.symm⟩])
    have HE:Hid (hHearH h m = ⟨h.log,h.boot,h.next,L.map (·.1)⟩):=Lib.hid (by rw [HHH.out,HYO.out,List.append_nil,HSAME.out])
    have HMS:Hid (hHearM h m = [⟨4,m.deed,m.house,[]⟩]):=Lib.hid (by rw [HHM.out,HYO.out])
    clear hkd g1
    go_upto_region 15 with fail
    clear g2 hg1 hg2
    clear d0 d1 d2 d3 m0 m1 m2 m3 z6 zm zr
    refine bSc (fun w'=>w'.cell? ⟨B6,0,none⟩ = some (.slice ag h.log.length cg)∧w'.cell? ⟨B6,1,none⟩ = some (.int .i64 h.boot)∧w'.cell? ⟨B6,2,none⟩ = some (.int .i64 h.next)∧w'.cell? ⟨B6,3,none⟩ = some (.slice (some ⟨g,0,none⟩) L.length co)∧w'.cell? ⟨w.heap.size + 1,1,none⟩ = some (.int .i64 m.deed)∧w'.cell? ⟨w.heap.size + 1,2,none⟩ = some (.int .i64 m.house)) [8] (by kernel_rfl) ?_
    intro wd GD zD
    have ZD:=Lib.hid zD
    clear zD
    refine bLc [0,1,2,3,4,5] 11 (by kernel_rfl) (fun _ _ _ _ _ h=>h) (HS.out _ GD) ?_
    repeat (refine tNc (v:=?_) rfl (by rfl) ?_ ?_;rotate_left;(· (intro w' hSw;(try dsimp only at hSw);obtain ⟨hs0,hs1,hs2,hs3,hs4,hs5⟩:=hSw;go_simp <;> with_reducible rfl));try simp only [Act.put,lzA,lzB,lzC,lzD,lzE,lzF])
    refine tEc ?_
    refine bPc 6 7 (by kernel_rfl) rfl rfl ?_ ?_
    ·intro K HK
     try simp only [lzA,lzB,lzC]
     go_simp
     obtain ⟨wy,hwy⟩:∃ y:World,y = wd.alloc (.cells #[.int .i64 4,.int .i64 m.deed,.int .i64 m.house,.slice none 0 0] 39):=⟨_,rfl⟩
     obtain ⟨BY,hBY⟩:∃ y,y = wd.heap.size:=⟨_,rfl⟩
     have HMO:Hid (OwnC Ty.ms (fun _=>none) wy wz.heap.size 39 (.slice (some ⟨BY,0,none⟩) 1 1) [⟨4,m.deed,m.house,[]⟩]):=Lib.hid (by rw [hwy,hBY];exact one_msg (by unfold I64;decide) HMI.out.2.1 HMI.out.2.2 _ (by have:=HB6.out;have:=GD.size;omega))
     have GY:Grow wd wy:=by rw [hwy];exact (Grow.refl _).alloc _
     rw [← hwy,← hBY]
     clear hwy hBY
     refine HK.out _ _ ⟨.inr (HS.out _ (GD.trans GY)),?_⟩
     clear HK K
     try simp only [Act.put,lzA,lzB,lzC,lzD,lzE,lzF]
     refine bOc 7 (by kernel_rfl) rfl ?_
     intro K HK
     refine wanted_go rfl ?_
     try simp only [lzA,lzB,lzC]
     refine wp_store_row (.tmp 4) (.tmp 104) rfl rfl rfl (row_grow R43.out (GD.trans GY)) info_hd rfl rfl ?_
     intro w7 r7 g7
     have HX7:=Lib.hid ((HR3.out.later (GD.trans GY)).past G1.out g7 (by have:=HZ.out;omega))
     have R67:=Lib.hid (row_by (row_grow R63.out (GD.trans GY)) g7 (fun e=>by have:=Option.some.inj e;have:=HB6.out;have:=HZ.out;omega))
     have RM7:=Lib.hid (row_by (row_grow RM3.out (GD.trans GY)) g7 (fun e=>by have:=Option.some.inj e;omega))
     have HMO2:=Lib.hid (HMO.out.kept g7 (off_of fun q hq=>by have:=(HMO.out.lt q hq).1;have:=HZ.out;omega))
     obtain ⟨p0,p1,p2,p3⟩:=cells4 r7
     refine HK.out _ _ ⟨.inr (by obtain ⟨j0,j1,j2,j3⟩:=cells4 R67.out;obtain ⟨-,k1,k2,-⟩:=cells4 RM7.out;exact ⟨j0,j1,j2,j3,k1,k2⟩),?_⟩
     clear HK K
     try simp only [Act.put]
     refine bOc 8 (by kernel_rfl) rfl ?_
     intro K HK
     try simp only [lzA,lzB,lzC]
     go_simp
     refine HK.out _ _ ⟨.inl (by decide),?_⟩
     clear HK K
     try simp only [Act.put,lzA,lzB,lzC,lzD,lzE,lzF]
     refine bDc (by kernel_rfl) ?_
     go_wp2
     refine bodyPost_ret (v:=.tuple #[.agg #[.slice ag h.log.length cg,.int .i64 h.boot,.int .i64 h.next,.slice (some ⟨g,0,none⟩) L.length co],.slice (some ⟨BY,0,none⟩) 1 1]) (by simp [results,Try.results112,go_sem,p0,p1,p2,p3]) rfl ?_
     exact ⟨_,_,rfl,HX7.out.fin HIB.out.1 HIB.out.2 HE.out (by rw [HMS.out];exact HMO2.out.slc (by decide) (fun _ _ e=>by cases e) fun a ha=>ov_new (by have:=HZ.out;omega))⟩
    ·intro K HK
     refine wanted_go rfl ?_
     try simp only [lzA,lzB,lzC]
     refine wp_store_row (.tmp 4) (.tmp 104) rfl rfl rfl (row_grow R43.out GD) info_hd rfl rfl ?_
     intro w7 r7 g7
     have HX7:=Lib.hid ((HR3.out.later GD).past G1.out g7 (by have:=HZ.out;omega))
     have R67:=Lib.hid (row_by (row_grow R63.out GD) g7 (fun e=>by have:=Option.some.inj e;have:=HB6.out;have:=HZ.out;omega))
     have RM7:=Lib.hid (row_by (row_grow RM3.out GD) g7 (fun e=>by have:=Option.some.inj e;omega))
     refine HK.out _ _ ⟨.inr (by obtain ⟨j0,j1,j2,j3⟩:=cells4 R67.out;obtain ⟨-,k1,k2,-⟩:=cells4 RM7.out;exact ⟨j0,j1,j2,j3,k1,k2⟩),?_⟩
     clear HK K
     try simp only [Act.put]
     refine bOc 6 (by kernel_rfl) rfl ?_
     intro K HK
     try simp only [lzA,lzB,lzC]
     go_simp
     obtain ⟨wy,hwy⟩:∃ y:World,y = w7.alloc (.cells #[.int .i64 4,.int .i64 m.deed,.int .i64 m.house,.slice none 0 0] 39):=⟨_,rfl⟩
     obtain ⟨BY,hBY⟩:∃ y,y = w7.heap.size:=⟨_,rfl⟩
     have HMO:Hid (OwnC Ty.ms (fun _=>none) wy wz.heap.size 39 (.slice (some ⟨BY,0,none⟩) 1 1) [⟨4,m.deed,m.house,[]⟩]):=Lib.hid (by rw [hwy,hBY];exact one_msg (by unfold I64;decide) HMI.out.2.1 HMI.out.2.2 _ (by have:=HB6.out;have:=GD.size;have:=g7.size;omega))
     have GY:Grow w7 wy:=by rw [hwy];exact (Grow.refl _).alloc _
     rw [← hwy,← hBY]
     clear hwy hBY
     have HX9:=Lib.hid (HX7.out.later GY)
     obtain ⟨p0,p1,p2,p3⟩:=cells4 (row_grow r7 GY)
     refine HK.out _ _ ⟨.inr (by obtain ⟨j0,j1,j2,j3⟩:=cells4 (row_grow R67.out GY);obtain ⟨-,k1,k2,-⟩:=cells4 (row_grow RM7.out GY);exact ⟨j0,j1,j2,j3,k1,k2⟩),?_⟩
     clear HK K
     try simp only [Act.put,lzA,lzB,lzC,lzD,lzE,lzF]
     refine bOc 8 (by kernel_rfl) rfl ?_
     intro K HK
     try simp only [lzA,lzB,lzC]
     go_simp
     refine HK.out _ _ ⟨.inl (by decide),?_⟩
     clear HK K
     try simp only [Act.put,lzA,lzB,lzC,lzD,lzE,lzF]
     refine bDc (by kernel_rfl) ?_
     go_wp2
     refine bodyPost_ret (v:=.tuple #[.agg #[.slice ag h.log.length cg,.int .i64 h.boot,.int .i64 h.next,.slice (some ⟨g,0,none⟩) L.length co],.slice (some ⟨BY,0,none⟩) 1 1]) (by simp [results,Try.results112,go_sem,p0,p1,p2,p3]) rfl ?_
     exact ⟨_,_,rfl,HX9.out.fin HIB.out.1 HIB.out.2 HE.out (by rw [HMS.out];exact HMO.out.slc (by decide) (fun _ _ e=>by cases e) fun a ha=>ov_new (by have:=HZ.out;omega))⟩
   | false=>
    have HYO:Hid (hearO q m = ([q],[],[])):=Lib.hid (by unfold hearO;rw [if_neg (fun e=>HKN2.out e.1),if_neg (fun e=>HKN3.out e.1),if_neg (fun e=>HKN6.out e.1),if_neg (fun e=>by have:=e.2;rw [← HT.out] at this;cases this)])
    have HE:Hid (hHearH h m = ⟨h.log,h.boot,h.next,L.map (·.1)⟩):=Lib.hid (by rw [HHH.out,HYO.out,List.append_nil,HSAME.out])
    have HMS:Hid (hHearM h m = []):=Lib.hid (by rw [HHM.out,HYO.out])
    clear hkd g1
    go_upto_region 16 with fail
    go_wp2_with (first | (refine wpList_store_row rfl (.tmp 4) (.tmp 111) rfl rfl rfl R43.out info_hd rfl rfl ?_))
    intro w7 r7 g7
    obtain ⟨p0,p1,p2,p3⟩:=cells4 r7
    go_wp2
    refine bodyPost_ret (v:=.tuple #[.agg #[.slice ag h.log.length cg,.int .i64 h.boot,.int .i64 h.next,.slice (some ⟨g,0,none⟩) L.length co],.slice none 0 0]) (by simp [results,Try.results112,go_sem,p0,p1,p2,p3]) rfl ?_
    exact ⟨_,_,rfl,(HR3.out.past G1.out g7 (by have:=HZ.out;omega)).fin HIB.out.1 HIB.out.2 HE.out (by rw [HMS.out];exact Sl.nil _ _)⟩
  have hk7:(m.kind == 7) = false:=by simp [hkd]
  have HYO:Hid (hearO q m = ([q],[],[])):=Lib.hid (by unfold hearO;rw [if_neg (fun e=>HKN2.out e.1),if_neg (fun e=>HKN3.out e.1),if_neg (fun e=>HKN6.out e.1),if_neg (fun e=>hkd e.1)])
  have HE:Hid (hHearH h m = ⟨h.log,h.boot,h.next,L.map (·.1)⟩):=Lib.hid (by rw [HHH.out,HYO.out,List.append_nil,HSAME.out])
  have HMS:Hid (hHearM h m = []):=Lib.hid (by rw [HHM.out,HYO.out])
  clear hkd g1 g2
  go_upto_region 16 with fail
  go_wp2_with (first | (refine wpList_store_row rfl (.tmp 4) (.tmp 111) rfl rfl rfl R43.out info_hd rfl rfl ?_))
  intro w7 r7 g7
  obtain ⟨p0,p1,p2,p3⟩:=cells4 r7
  go_wp2
  refine bodyPost_ret (v:=.tuple #[.agg #[.slice ag h.log.length cg,.int .i64 h.boot,.int .i64 h.next,.slice (some ⟨g,0,none⟩) L.length co],.slice none 0 0]) (by simp [results,Try.results112,go_sem,p0,p1,p2,p3]) rfl ?_
  exact ⟨_,_,rfl,(HR3.out.past G1.out g7 (by have:=HZ.out;omega)).fin HIB.out.1 HIB.out.2 HE.out (by rw [HMS.out];exact Sl.nil _ _)⟩
def playE:AW→List St→List Int
 | _,[]=>[]
 | w,s :: l=>doErr w s :: playE (doA w s) l
theorem playE_len:∀ (l:List St) (w:AW),(playE w l).length = l.length
 | [],_=>rfl
 | s :: l,w=>by rw [playE,List.length_cons,List.length_cons,playE_len l]
theorem playE_snoc:∀ (l:List St) (w:AW) (s:St),playE w (l ++ [s]) = playE w l ++ [doErr (playA w l) s]
 | [],w,s=>rfl
 | t :: l,w,s=>by
  rw [List.cons_append,playE,playE,playE_snoc l]
  rfl
theorem playA_snoc (l:List St) (w:AW) (s:St):playA w (l ++ [s]) = doA (playA w l) s:=by unfold playA;rw [List.foldl_append];rfl
theorem playA_next {l:List St} {j:Nat} (h:j < l.length) (w:AW):playA w (l.take (j + 1)) = doA (playA w (l.take j)) l[j]:=by
 rw [List.take_succ_eq_append_getElem h,playA_snoc]
theorem playE_next {l:List St} {j:Nat} (h:j < l.length) (w:AW):playE w (l.take (j + 1)) = playE w (l.take j) ++ [doErr (playA w (l.take j)) l[j]]:=by
 rw [List.take_succ_eq_append_getElem h,playE_snoc]
def LogP (l:List Rc):Prop:=∀ r ∈ l,r.kind = 5 ∨ r.parts = []
theorem LogP.app {l t:List Rc} (h:LogP l) (k:LogP t):LogP (l ++ t):=fun r hr=>(List.mem_append.1 hr).elim (h r) (k r)
theorem logP_hearO (o:Opn) (m:Ms):LogP (hearO o m).2.1:=by
 intro r hr
 unfold hearO at hr
 split at hr
 ·split at hr
  ·simp only [List.mem_singleton] at hr;rw [hr];exact .inl rfl
  ·simp at hr
 ·split at hr
  ·simp at hr
  ·split at hr
   ·split at hr
    ·simp only [List.mem_singleton] at hr;rw [hr];exact .inr rfl
    ·simp at hr
   ·split at hr <;> simp at hr
theorem logP_hearL {m:Ms}:∀ {l:List Opn} {x:List Opn × List Rc × List Ms},hearL m l = some x→LogP x.2.1
 | [],x,h=>by simp [hearL] at h
 | o :: l,x,h=>by
  rw [hearL] at h
  split at h
  ·rw [← Option.some.inj h];exact logP_hearO o m
  ·cases e:hearL m l with
   | none=>rw [e] at h;cases h
   | some y=>
    rw [e] at h
    rw [← Option.some.inj h]
    have h9:=logP_hearL e
    exact h9
theorem logP_hHear {h:Hd} (m:Ms) (hk:LogP h.log):LogP (hHearH h m).log:=by
 unfold hHearH
 split
 ·exact hk
 ·rename_i x e
  exact hk.app (logP_hearL e)
theorem logP_fall {h:Hd} (hk:LogP h.log):LogP (fallH h).log:=by
 unfold fallH
 split
 ·exact hk
 ·rw [headR_log]
  exact hk.app fun r hr=>by simp only [List.mem_singleton] at hr;rw [hr];exact .inr rfl
theorem logP_come {w:AW} (m:Ms) (h:LogP w.head.log):LogP (comeA w m).head.log:=by
 unfold comeA
 split
 ·exact h
 ·split
  ·exact h
  ·exact logP_hHear m h
theorem logP_step {w:AW} (h:LogP w.head.log) (s:St):LogP (doA w s).head.log:=by
 unfold doA
 split
 ·split
  ·show LogP (beginH w.head s.parts).log
   rw [begin_log];exact h
  ·exact h
 ·split
  ·split
   ·exact logP_come _ h
   ·exact h
  ·split
   ·split <;> exact h
   ·split
    ·split <;> exact h
    ·split
     ·split
      ·exact logP_fall h
      ·exact h
     ·split
      ·split
       ·unfold tickA
        split
        ·exact h
        ·split <;> exact h
       ·exact h
      ·split <;> exact h
theorem logP_play:∀ (l:List St) {w:AW},LogP w.head.log→LogP (playA w l).head.log
 | [],_,h=>h
 | s :: l,_,h=>logP_play l (logP_step h s)
theorem logP_new (n:Nat):LogP (newA n).head.log:=by
 show LogP (headR _).log
 rw [headR_log]
 intro r hr
 simp only [List.mem_singleton] at hr
 rw [hr];exact .inr rfl
theorem logP_len {n:Nat} {G:Reg} {x:AW} (i:WI n G x) (h:LogP x.head.log):∀ r ∈ x.head.log,r.parts.length ≤ 4:=fun r hr=>by
 rcases h r hr with h5 | h0
 ·exact (wrong_ok (i.core.reg.ok _ (i.core.dec.reg ⟨r.deed,r.parts⟩ (List.mem_map.2 ⟨r,List.mem_filter.2 ⟨hr,by simp [h5]⟩,rfl⟩))).2).2.1
 ·rw [h0];simp
def nc (c:CM) (w W:World) (X:List (Option Nat)):CM:=fun a=>if some a.block ∈ X then none else ov c w W a
theorem nc_ov (c:CM) (w W:World) (X:List (Option Nat)):Sub (nc c w W X) (ov c w W):=fun a v e=>by
 unfold nc at e
 split at e
 ·cases e
 ·exact e
theorem nc_sub {c:CM} {w W:World} (hc:Sub c w.cell?) (hg:Grow w W) (X:List (Option Nat)):Sub (nc c w W X) W.cell?:=(nc_ov c w W X).trans (ov_sub hc hg)
theorem nc_all {c:CM} {w:World} (hc:Sub c w.cell?) {W:World} {X:List (Option Nat)} (hX:∀ k,some k ∈ X→w.heap.size ≤ k):Sub c (nc c w W X):=fun a v e=>by
 have hl:=World.block_lt_of_cell? w a (hc _ _ e)
 unfold nc
 rw [if_neg (fun h=>by have:=hX _ h;omega)]
 exact ov_in hc _ _ e
theorem nc_grow {c:CM} {w W W':World} {X:List (Option Nat)} (h:Grow W W'):Sub (nc c w W X) (nc c w W' X):=fun a v e=>by
 unfold nc at e ⊢
 split at e
 ·cases e
 ·rename_i hn
  rw [if_neg hn]
  exact ov_mono (Sub.refl _) h a v e
theorem nc_app {c:CM} {w W W':World} {v v':Value} (_:∀ k,v.ownBlock = some k→w.heap.size ≤ k) (hg:W.grownBy W' v.ownBlock) (hw:w.heap.size ≤ W.heap.size) (hb:v'.ownBlock = v.ownBlock ∨ ∃ g,v'.ownBlock = some g∧W.heap.size ≤ g):Sub (nc c w W [v.ownBlock]) (nc c w W' [v'.ownBlock]):=fun a u e=>by
 unfold nc at e ⊢
 split at e
 ·cases e
 ·rename_i hn
  simp only [List.mem_singleton] at hn
  unfold ov at e ⊢
  by_cases hl:a.block < w.heap.size
  ·rw [if_pos hl] at e
   rw [if_pos hl,if_neg]
   ·exact e
   ·simp only [List.mem_singleton]
    intro e2
    rcases hb with hb | ⟨g,hb,hge⟩
    ·rw [hb] at e2;exact hn e2
    ·rw [hb] at e2;have:=Option.some.inj e2;omega
  ·rw [if_neg hl] at e
   rw [if_neg hl]
   have hlt:=World.block_lt_of_cell? W a e
   rw [if_neg,World.cell?_of_block (hg.block a.block hlt hn)]
   ·exact e
   ·simp only [List.mem_singleton]
    intro e2
    rcases hb with hb | ⟨g,hb,hge⟩
    ·rw [hb] at e2;exact hn e2
    ·rw [hb] at e2;have:=Option.some.inj e2;omega
theorem fr_nc {c:CM} {w W:World} {X:List (Option Nat)}:Sub (fr w W X) (nc c w W X):=fun a v e=>by
 unfold fr at e
 split at e
 ·cases e
 ·rename_i hn
  unfold nc
  rw [if_neg (fun h=>hn (.inr h)),ov_new (by have:¬ a.block < w.heap.size:=fun h=>hn (.inl h);omega)]
  exact e
set_option maxRecDepth 100000 in
set_option maxHeartbeats 1000000 in
theorem ref_sendC {c:CM} {v vm:Value} {l:List (List UInt8)} {ms:List Ms} (w:World) (hc:Sub c w.cell?) (hv:Nts c v l) (hms:Mss w.cell? vm ms) (hr:∀ m ∈ ms,wrongM m = 0) (hm:l.length * 24 + 1000 ≤ 140737488355328) :
  Calls Try.prog 70 #[v,vm] w fun e w'=>∃ v',e = .returned v'∧Nts (ov c w w') v' (sendB l ms)∧Grow w w':=by
 have HR:=Lib.hid hr
 have HV:=Lib.hid hv
 have HC:=Lib.hid hc
 obtain ⟨av,cv,rfl,-⟩:=id hv
 obtain ⟨am,cm,rfl,h1,h2,-,hel⟩:=hms
 unfold maxLen at h2
 clear hv hr hc
 go_enter Try.func70,Try.ntmps70
 go_wp2_with (first | (at_builtin;refine wpList_appc (c:=nc c w (w.alloc (.cells #[] 69)) [(Value.slice (some ⟨w.heap.size,0,none⟩) 0 0).ownBlock]) (base:=w.heap.size) (l:=[]) (m:=l) ei_bts rfl (one_Tsl Ty.byte) (by decide) rfl (.tmp 6) (.tmp 7) rfl rfl (OwnC.made0 Ty.bs _ _ _ _ ?c1 ?c1') rfl ?src ?c3 ?c4 ?_))
 case c1=>exact Nat.le_refl _
 case c1'=>rfl
 case src=>
  have hS:=nc_all (c:=c) HC.out (W:=w.alloc (.cells #[] 69)) (X:=[(Value.slice (some ⟨w.heap.size,0,none⟩) 0 0).ownBlock]) (fun k hk=>by simp [Value.ownBlock] at hk;omega)
  exact Src.of_sl_c (by decide) (nc_sub HC.out ((Grow.refl _).alloc _) _) (HV.out.mono hS)
 case c3=>simp;omega
 case c4=>simp
 intro a4 c4 w4 ho4 hg4 hb4
 have HO4:Hid (OwnC Ty.bs (nc c w w4 [(Value.slice a4 l.length c4).ownBlock]) w4 w.heap.size 69 (.slice a4 l.length c4) l):=Lib.hid (by
  have hb5:(Value.slice a4 l.length c4).ownBlock = (Value.slice (some ⟨w.heap.size,0,none⟩) 0 0).ownBlock ∨ ∃ g,(Value.slice a4 l.length c4).ownBlock = some g∧(w.alloc (.cells #[] 69)).heap.size ≤ g:=by
   rcases hb4 with e | ⟨g,e,hge⟩
   ·exact .inl (by simpa using e)
   ·exact .inr ⟨g,by simpa using e,by simpa using hge⟩
  have h9:=OwnC.mono (nc_app (own_at (Nat.le_refl _)) hg4 (by simp) hb5) (by simpa using ho4)
  exact h9)
 have G4:=Lib.hid (grow_by (w0:=w) ((Grow.refl w).alloc _) hg4 (own_at (Nat.le_refl _)))
 try simp only [List.length_nil,Nat.zero_add]
 clear ho4 hg4 hb4
 go_wp2
 go_loopw [0,5] (fun bv i wr=>∃ k:Nat,k ≤ ms.length∧i = .int .i64 k∧Grow w wr∧OwnC Ty.bs (nc c w wr [bv.ownBlock]) wr w.heap.size 69 bv (sendB l (ms.take k))) (fun _ i _=>ms.length - (intOf i).toNat)
 case atStart=>exact ⟨0,by omega,rfl,G4.out,by rw [List.take_zero,sendB_nil];exact HO4.out⟩
 case round=>
  obtain ⟨k,hk',rfl,hb,hown⟩:=hrel
  obtain ⟨av,cv,rfl⟩:=hown.form
  by_cases hlt:k < ms.length
  ·by_cases h24:(sendB l (ms.take k)).length < 24
   ·obtain ⟨b,o,vp,rfl,c0,c1,c2,c3,i0,i1,i2,hP⟩:=Mss.at_ hel k hlt
    obtain ⟨ap,cp,rfl,-⟩:=id hP
    replace c0:=hb.sub _ _ c0
    replace c1:=hb.sub _ _ c1
    replace c2:=hb.sub _ _ c2
    replace c3:=hb.sub _ _ c3
    have hw:=HR.out ms[k] (List.getElem_mem _)
    have HST:=Lib.hid (sendB_step (l:=l) hlt)
    have HBY:=Lib.hid (fun (W:World) (hW:Grow wr W)=>ref_bytes (m:=ms[k]) W ⟨_,rfl,_,rfl,i0,i1,i2,hP.mono (hb.trans hW).sub⟩ (right_kind hw) (right_len hw))
    have HOWN:=Lib.hid hown
    have HB:=Lib.hid hb
    clear hel hP hw hown i0 i1 i2 hb
    generalize ms[k] = m at *
    generalize sendB l (ms.take k) = lk at *
    have HST2:=Lib.hid (show sendB l (ms.take (k + 1)) = lk ++ [bytesM m] by rw [HST.out,if_pos h24])
    clear HST
    go_wp2_with fail
    refine (HBY.out _ (Grow.refl _)).mono ?_
    rintro e w2 ⟨v2,rfl,ho2,hb2⟩
    obtain ⟨a2,cap2,rfl⟩:=owns_form ho2
    have HO2:=Lib.hid ho2
    have HB2:=Lib.hid hb2
    clear ho2 hb2
    generalize bytesM m = r at *
    go_wp2_with (first | (at_builtin;refine wpList_appc (c:=nc c w (w2.alloc (.cells #[.slice a2 r.length cap2] 69)) [(Value.slice av lk.length cv).ownBlock]) (base:=w.heap.size) (l:=lk) (m:=[r]) ei_bts rfl (one_Tsl Ty.byte) (by decide) rfl (.tmp 20) (.tmp 26) rfl rfl ?own rfl (Src.of_new (T:=Ty.bs) (x:=r) (cs:=#[.slice a2 r.length cap2]) ?d0 _ _ ?d1) ?d2 ?d3 ?_))
    case own=>exact (HOWN.out.mono (nc_grow (HB2.out.alloc _))).grow (HB2.out.alloc _)
    case d0=>
     refine ⟨_,rfl,?_⟩
     have hlt2:=HOWN.out.lt
     refine Sl.mono fr_nc (bts_fr (w1:=wr) ?_ HB.out.size ?_)
     ·exact owns_grow HO2.out ((Grow.refl _).alloc _)
     ·intro q hq
      simp only [List.mem_singleton]
      intro e
      have:=(hlt2 q e.symm).2
      omega
    case d1=>simp
    case d2=>simp;omega
    case d3=>have:=(HB2.out.alloc (.cells #[.slice a2 r.length cap2] 69)).size;have:=HB.out.size;omega
    intro a5 c5 w5 hown5 hg5 hb5
    have hG5:Grow w w5:=grow_by (w0:=w) (HB.out.trans (HB2.out.alloc _)) hg5 (fun q hq=>(HOWN.out.lt q hq).1)
    have HO5:=Lib.hid (hown5.mono (nc_app (fun q hq=>(HOWN.out.lt q hq).1) hg5 (by have:=HB.out.size;have:=(HB2.out.alloc (.cells #[.slice a2 r.length cap2] 69)).size;omega) (hb5.imp_right fun ⟨g,e,hge⟩=>⟨g,e,by simpa using hge⟩)))
    have HG5:=Lib.hid hG5
    clear hown5 hg5 hb5 hG5
    go_wp2
    go_roundw
    case rel=>exact ⟨k + 1,by omega,by go_num,HG5.out,by rw [HST2.out];exact HO5.out⟩
    case measure=>simp [intOf];omega
   ·have HF:=Lib.hid (sendB_full (l:=l) (ms:=ms) (k:=k) (by omega))
    clear hel
    have HOWN:=Lib.hid hown
    have HB:=Lib.hid hb
    clear hown hb
    go_wp2
    go_ret
    exact ⟨_,rfl,by rw [HF.out];exact HOWN.out.slc (by decide) (nc_ov _ _ _ _) (fun a ha=>ov_new ha),HB.out⟩
  ·clear hel
   have HOWN:=Lib.hid hown
   have HB:=Lib.hid hb
   have HF:Hid (sendB l (ms.take k) = sendB l ms):=Lib.hid (by rw [List.take_of_length_le (by omega)])
   clear hown hb
   go_wp2
   go_ret
   exact ⟨_,rfl,by rw [← HF.out];exact HOWN.out.slc (by decide) (nc_ov _ _ _ _) (fun a ha=>ov_new ha),HB.out⟩
theorem Of.st_form {c:CM} {v:Value} {kd sn:Int} {sp:List Pt} (hv:Of Ty.st c v ⟨kd,sn,sp⟩):∃ ap cp,v = .agg #[.int .i64 kd,.int .i64 sn,.slice ap sp.length cp]:=by
 obtain ⟨cs,rfl,vp,rfl,-,-,hp⟩:=hv
 obtain ⟨ap,cp,rfl,-⟩:=id hp
 exact ⟨ap,cp,rfl⟩
theorem Of.st_parts {c:CM} {a b vp:Value} {kd sn:Int} {sp:List Pt} (hv:Of Ty.st c (.agg #[a,b,vp]) ⟨kd,sn,sp⟩):I64 sn∧Sl Ty.pt c vp sp:=by
 obtain ⟨cs,he,vp',rfl,-,h2,hp⟩:=hv
 simp at he
 obtain ⟨-,-,rfl⟩:=he
 exact ⟨h2,hp⟩
theorem WI.hdok {n:Nat} {G:Reg} {x:AW} {k:Nat} (i:WI n G x) (f:Few k x) (hk:k ≤ 1000):HdOk x.head where
 opn:=i.core.olen
 parts:=fun o ho=>(wrong_ok (i.core.reg.ok _ (i.core.oreg o ho)).2).2.1
 heard:=fun o ho=>by have:=(i.core.onew o ho).2.2;have:=houses_short o.parts;omega
 log:=by have:=f.log;omega
 boot:=by have:=i.core.boot;omega
 next:=i.core.next
theorem ov_past {c:CM} {w W w1 w2:World} {B:Nat} (hg:w1.grownBy w2 (some B)) (_:w.heap.size ≤ B) (hB:B < W.heap.size):Sub (ov c W w1) (ov c W w2):=fun a v e=>by
 unfold ov at e ⊢
 split at e
 ·rw [if_pos ‹_›];exact e
 ·rw [if_neg ‹_›]
  exact cell_past e hg (by omega)
theorem ovz_sub {c:CM} {w W w7:World} (hc:Sub c w.cell?) (hW:Grow w W):Sub (ov c W w7) (ov c w w7):=fun a v e=>by
 have hs:=hW.size
 unfold ov at e ⊢
 split at e
 ·have hl:=World.block_lt_of_cell? w a (hc _ _ e)
  rw [if_pos hl];exact e
 ·rw [if_neg (by omega)];exact e
set_option maxRecDepth 100000 in
set_option maxHeartbeats 4000000 in
theorem ref_do_quit {c:CM} {v vs:Value} {x:AW} {sn:Int} {sp:List Pt} {n:Nat} {G:Reg} {k:Nat} (w:World) (hc:Sub c w.cell?) (hv:Of Ty.wd c v x) (hs:Of Ty.st c vs ⟨7,sn,sp⟩) (hi:WI n G x) (hf:Few k x) (hk:k ≤ 1000) :
  Calls Try.prog 138 #[v,vs] w fun e w'=>∃ v',e = .returned (.tuple #[v',.int .i64 (doErr x ⟨7,sn,sp⟩)])∧Of Ty.wd (ov c w w') v' (doA x ⟨7,sn,sp⟩)∧Grow w w':=by
 obtain ⟨al,cl,ao,co,ah,ch,an,cn,rfl⟩:=hv.wd_form
 obtain ⟨ap,cp,rfl⟩:=hs.st_form
 obtain ⟨q1,q2,q3⟩:=hv.wd_parts
 have HQ1:=Lib.hid q1
 have HQ2:=Lib.hid q2
 have HQ3:=Lib.hid q3
 have HSP:=Lib.hid hs.st_parts
 have HHD:=Lib.hid (hi.hdok hf hk)
 have HWI:=Lib.hid hi
 have HV:=Lib.hid hv
 have HC:=Lib.hid hc
 clear hc hv hs q1 q2 q3 hi hf
 obtain ⟨wa,hwa⟩:∃ y:World,y = w.alloc (.cells #[.slice al x.head.log.length cl,.int .i64 x.head.boot,.int .i64 x.head.next,.slice ao x.head.opn.length co,.slice ah x.houses.length ch,.slice an x.net.length cn] 93):=⟨_,rfl⟩
 obtain ⟨wb,hwb⟩:∃ y:World,y = wa.alloc (.cells #[.int .i64 7,.int .i64 sn,.slice ap sp.length cp] 164):=⟨_,rfl⟩
 obtain ⟨wz,hwz⟩:∃ y:World,y = wb.alloc (.cells #[.slice none 0 0,.int .i64 0,.int .i64 0,.slice none 0 0,.slice none 0 0,.slice none 0 0] 93):=⟨_,rfl⟩
 have hsa:wa.heap.size = w.heap.size + 1:=by rw [hwa];simp
 have hsb:wb.heap.size = w.heap.size + 2:=by rw [hwb];simp [hsa]
 have R2:Hid (wz.heap[w.heap.size]? = some (.cells #[.slice al x.head.log.length cl,.int .i64 x.head.boot,.int .i64 x.head.next,.slice ao x.head.opn.length co,.slice ah x.houses.length ch,.slice an x.net.length cn] 93 (0,0))):=Lib.hid (by rw [hwz,hwb,hwa];exact heap_later (heap_later (row_new _ _) _) _)
 have R3:Hid (wz.heap[w.heap.size + 1]? = some (.cells #[.int .i64 7,.int .i64 sn,.slice ap sp.length cp] 164 (0,0))):=Lib.hid (by rw [hwz,hwb,← hsa];exact heap_later (row_new _ _) _)
 have R4:Hid (wz.heap[w.heap.size + 2]? = some (.cells #[.slice none 0 0,.int .i64 0,.int .i64 0,.slice none 0 0,.slice none 0 0,.slice none 0 0] 93 (0,0))):=Lib.hid (by rw [hwz,← hsb];exact row_new _ _)
 have G1:Hid (Grow w wz):=Lib.hid (by rw [hwz,hwb,hwa];exact (((Grow.refl w).alloc _).alloc _).alloc _)
 have HZ:Hid (wz.heap.size = w.heap.size + 3):=Lib.hid (by rw [hwz];simp [hsb])
 go_enter Try.func138,Try.ntmps138
 go_upto_region 1 with fail
 rw [← hwa]
 try rw [hsa]
 rw [← hwb]
 try rw [hsb]
 rw [← hwz]
 clear hwa hwb hwz hsa hsb
 obtain ⟨c0,c1,c2,c3,c4,c5⟩:=cells6 R2.out
 obtain ⟨d0,d1,d2⟩:=cells3 R3.out
 have z2:w.heap.size < wz.heap.size:=(Array.getElem?_eq_some_iff.1 R2.out).1
 have z3:w.heap.size + 1 < wz.heap.size:=(Array.getElem?_eq_some_iff.1 R3.out).1
 go_cut [6] from 22 (fun s6 wc=>s6 = .bool (there x sn)∧wz = wc)
 case first=>
  by_cases h0:0 ≤ sn
  ·by_cases h1:sn < (x.net.length:Int)
   ·go_wp2
    go_meet
    case rel=>exact ⟨by first | rfl | (simp [there,h0,h1];done),rfl⟩
   ·go_wp2
    go_meet
    case rel=>exact ⟨by first | rfl | (simp [there,h0,h1];done) | (simp [there,h0];omega),rfl⟩
  ·go_wp2
   go_meet
   case rel=>exact ⟨by first | rfl | (simp [there];done) | (simp [there];omega),rfl⟩
 case rest=>
 obtain ⟨rfl,rfl⟩:=hcut
 have hE:doA x ⟨7,sn,sp⟩ = { x with head:=quitH x.head,net:=sendA x.net (quitM x.head) }:=by unfold doA;simp
 have hE2:doErr x ⟨7,sn,sp⟩ = 0:=by unfold doErr;simp
 have HE:=Lib.hid hE
 have HE2:=Lib.hid hE2
 clear hE hE2
 go_wp2_with fail
 refine (ref_quit (c:=c) wz (HC.out.trans G1.out.sub) HQ1.out HHD.out).mono ?_
 rintro e w1 ⟨v1,v2,rfl,hx1,hx2,hb1⟩
 obtain ⟨al2,cl2,ao2,co2,rfl⟩:=hx1.hd_form
 obtain ⟨am,cm,rfl,-⟩:=id hx2
 have HX1:=Lib.hid hx1
 have HX2:=Lib.hid hx2
 have R21:=Lib.hid (row_grow R2.out hb1)
 have R41:=Lib.hid (row_grow R4.out hb1)
 have GZ1:=Lib.hid hb1
 have HRT:=Lib.hid (WI.says (HWI.out.core.quit).2.2)
 have H24:=Lib.hid HWI.out.len
 clear hx1 hx2 hb1 c0 c1 c2 c3 c4 c5 d0 d1 d2 z2 z3
 generalize hqh:quitH x.head = qh at *
 generalize hqm:quitM x.head = qm at *
 clear hqh hqm
 go_upto_region 48 with fail
 obtain ⟨w2,hw2⟩:∃ y:World,y = w1.alloc (.cells #[.slice al2 qh.log.length cl2,.int .i64 qh.boot,.int .i64 qh.next,.slice ao2 qh.opn.length co2] 57):=⟨_,rfl⟩
 obtain ⟨BH,hBH⟩:∃ y,y = w1.heap.size:=⟨_,rfl⟩
 have G12:Hid (Grow w1 w2):=Lib.hid (by rw [hw2];exact (Grow.refl _).alloc _)
 have RH:Hid (w2.heap[BH]? = some (.cells #[.slice al2 qh.log.length cl2,.int .i64 qh.boot,.int .i64 qh.next,.slice ao2 qh.opn.length co2] 57 (0,0))):=Lib.hid (by rw [hw2,hBH];exact row_new _ _)
 have HBHN:Hid (BH ≠ w.heap.size):=Lib.hid (by have:=(Array.getElem?_eq_some_iff.1 R41.out).1;omega)
 rw [← hw2,← hBH]
 clear hw2 hBH
 have R22:=Lib.hid (row_grow R21.out G12.out)
 have R42:=Lib.hid (row_grow R41.out G12.out)
 have GW2:=Lib.hid (G1.out.trans (GZ1.out.trans G12.out))
 have HS:Hid (∀ W,Grow w2 W→W.cell? ⟨BH,0,none⟩ = some (.slice al2 qh.log.length cl2)∧W.cell? ⟨BH,1,none⟩ = some (.int .i64 qh.boot)∧W.cell? ⟨BH,2,none⟩ = some (.int .i64 qh.next)∧W.cell? ⟨BH,3,none⟩ = some (.slice ao2 qh.opn.length co2)∧W.cell? ⟨w.heap.size,5,none⟩ = some (.slice an x.net.length cn)):=fun W hW=>by
  obtain ⟨k0,k1,k2,k3⟩:=cells4 (row_grow RH.out hW)
  obtain ⟨-,-,-,-,-,j5⟩:=cells6 (row_grow R22.out hW)
  exact ⟨k0,k1,k2,k3,j5⟩
 refine but_start (fun w'=>w'.cell? ⟨BH,0,none⟩ = some (.slice al2 qh.log.length cl2)∧w'.cell? ⟨BH,1,none⟩ = some (.int .i64 qh.boot)∧w'.cell? ⟨BH,2,none⟩ = some (.int .i64 qh.next)∧w'.cell? ⟨BH,3,none⟩ = some (.slice ao2 qh.opn.length co2)∧w'.cell? ⟨w.heap.size,5,none⟩ = some (.slice an x.net.length cn)) 8 (by kernel_rfl) ?_
 obtain ⟨wd,hWd⟩:∃ x:World,x = w2.drew:=⟨_,rfl⟩
 rw [← hWd]
 have GD:Grow w2 wd:=by rw [hWd];exact (Grow.refl _).drew
 have zD:w2.heap.size = wd.heap.size:=by rw [hWd];rfl
 have ZD:=Lib.hid zD
 clear hWd zD
 refine bLm [0] 12 (by kernel_rfl) (fun _ _ _ _ _ h=>h) (HS.out _ GD) ?_
 repeat (refine tNm (v:=?_) rfl (by rfl) ?_ ?_;rotate_left;(· (intro w' hSw;(try dsimp only at hSw);obtain ⟨hs0,hs1,hs2,hs3,hs4⟩:=hSw;go_simp <;> with_reducible rfl));try simp only [Act.put,lzA,lzC,lzD,lzE,lzF])
 refine tEm ?_
 refine bLm [1,2,3] 12 (by kernel_rfl) (fun _ _ _ _ _ h=>h) (HS.out _ GD) ?_
 repeat (refine tNm (v:=?_) rfl (by rfl) ?_ ?_;rotate_left;(· (intro w' hSw;(try dsimp only at hSw);obtain ⟨hs0,hs1,hs2,hs3,hs4⟩:=hSw;go_simp <;> with_reducible rfl));try simp only [Act.put,lzA,lzB,lzC,lzD,lzE,lzF])
 refine tEm ?_
 refine bP 4 5 (by kernel_rfl) rfl rfl ?_ ?_
 ·intro K HK
  try simp only [lzA,lzB,lzC]
  go_simp
  go_at_call 70
  refine (ref_sendC (c:=c) (l:=x.net.map bytesM) (ms:=qm) _ (HC.out.trans (GW2.out.trans GD).sub) ?nv (Sl.mono (Grow.sub (Grow.trans G12.out GD)) (Sl.mono (ov_sub (HC.out.trans G1.out.sub) GZ1.out) HX2.out)) HRT.out (by rw [List.length_map];have:=H24.out;omega)).mono ?_
  case nv=>have h9:=HQ3.out;simpa using h9
  rintro e3 w3 ⟨v3,rfl,hn3,hb3⟩
  obtain ⟨a3,c3,rfl,-⟩:=id hn3
  have HN3:=Lib.hid hn3
  have G3:=Lib.hid (Grow.trans GD hb3)
  have GB3:=Lib.hid hb3
  have ZDW:=Lib.hid (GD).size
  clear hn3 hb3
  rw [send_map,List.length_map]
  refine HK.out _ _ ⟨fun _=>HS.out _ G3.out,?_⟩
  clear HK K
  try simp only [Act.put,lzA,lzB,lzC,lzD,lzE,lzF]
  refine bO 5 (by kernel_rfl) rfl ?_
  intro K HK
  try simp only [lzA,lzB,lzC]
  go_simp
  refine HK.out _ _ ⟨fun _=>HS.out _ G3.out,?_⟩
  clear HK K
  try simp only [Act.put,lzA,lzB,lzC,lzD,lzE,lzF]
  refine bO 6 (by kernel_rfl) rfl ?_
  intro K HK
  refine wanted_go rfl ?_
  try simp only [lzA,lzB,lzC]
  refine wp_store_part (.tmp 260) (.tmp 255) (p:=0) (cells:=#[.slice al2 qh.log.length cl2,.int .i64 qh.boot,.int .i64 qh.next,.slice ao2 qh.opn.length co2]) (new:=#[.slice al2 qh.log.length cl2,.int .i64 qh.boot,.int .i64 qh.next,.slice ao2 qh.opn.length co2,.slice ah x.houses.length ch,.slice an x.net.length cn]) rfl rfl (by rfl) (row_grow R22.out G3.out) info_hd (by simp) (by rfl) (by rfl) ?_
  intro w4 r4 g4
  have R44:=Lib.hid r4
  have HG4:=Lib.hid g4
  have HS4:Hid (w4.cell? ⟨BH,0,none⟩ = some (.slice al2 qh.log.length cl2)∧w4.cell? ⟨BH,1,none⟩ = some (.int .i64 qh.boot)∧w4.cell? ⟨BH,2,none⟩ = some (.int .i64 qh.next)∧w4.cell? ⟨BH,3,none⟩ = some (.slice ao2 qh.opn.length co2)∧w4.cell? ⟨w.heap.size,5,none⟩ = some (.slice an x.net.length cn)):=Lib.hid (by obtain ⟨k0,k1,k2,k3,-⟩:=HS.out _ G3.out;obtain ⟨-,-,-,-,-,j5⟩:=cells6 r4;have hne:BH ≠ w.heap.size:=HBHN.out;exact ⟨cell_past k0 g4 hne,cell_past k1 g4 hne,cell_past k2 g4 hne,cell_past k3 g4 hne,j5⟩)
  clear r4 g4
  refine HK.out _ _ ⟨fun _=>HS4.out,?_⟩
  clear HK K
  try simp only [Act.put]
  refine bO 7 (by kernel_rfl) rfl ?_
  intro K HK
  try simp only [lzA,lzB,lzC]
  go_simp
  refine HK.out _ _ ⟨fun _=>HS4.out,?_⟩
  clear HK K
  try simp only [Act.put,lzA,lzB,lzC,lzD,lzE,lzF]
  refine bO 8 (by kernel_rfl) rfl ?_
  intro K HK
  refine wanted_go rfl ?_
  try simp only [lzA,lzB,lzC]
  refine wp_store_cell (.tmp 261) (.tmp 259) (v:=.slice a3 (sendA x.net qm).length c3) (new:=#[.slice al2 qh.log.length cl2,.int .i64 qh.boot,.int .i64 qh.next,.slice ao2 qh.opn.length co2,.slice ah x.houses.length ch,.slice a3 (sendA x.net qm).length c3]) rfl rfl (by rfl) (by rfl) R44.out info_nets (by simp) (by rfl) (by rfl) ?_
  intro w5 r5 g5
  have R55:=Lib.hid r5
  have HG5:=Lib.hid g5
  clear r5 g5
  refine HK.out _ _ ⟨fun h=>absurd rfl h,?_⟩
  clear HK K
  try simp only [Act.put]
  refine but_done (by kernel_rfl) ?_
  have R45:=Lib.hid (row_by (row_by (row_grow R42.out G3.out) HG4.out (by intro e;have:=Option.some.inj e;omega)) HG5.out (by intro e;have:=Option.some.inj e;omega))
  have G5:=Lib.hid (((GW2.out.trans G3.out).grown HG4.out (fun q hq=>by simp at hq;omega)).grown HG5.out (fun q hq=>by simp at hq;omega))
  obtain ⟨c0,c1,c2,c3x,c4,c5⟩:=cells6 R55.out
  have z2:w.heap.size < w5.heap.size:=(Array.getElem?_eq_some_iff.1 R55.out).1
  go_wp2_with (first | (refine wpList_store_row rfl (.tmp 4) (.tmp 262) rfl rfl rfl R45.out info_wd rfl rfl ?_))
  intro w7 r7 g7
  obtain ⟨p0,p1,p2,p3,p4,p5⟩:=cells6 r7
  clear c0 c1 c2 c3x c4 c5
  go_wp2
  refine bodyPost_ret (v:=.tuple #[.agg #[.slice al2 qh.log.length cl2,.int .i64 qh.boot,.int .i64 qh.next,.slice ao2 qh.opn.length co2,.slice ah x.houses.length ch,.slice a3 (sendA x.net qm).length c3],.int .i64 0]) (by simp [results,Try.results138,go_sem,p0,p1,p2,p3,p4,p5]) rfl ?_
  have G7:=G5.out.grown g7 (fun q hq=>by simp at hq;omega)
  rw [HE.out,HE2.out]
  refine ⟨_,rfl,Of.wd_mk ?_ (HQ2.out.mono (ov_in HC.out)) ?_,G7⟩
  ·refine HX1.out.mono fun a u e=>?_
   have e1:=ov_mono (Sub.refl _) (G12.out.trans G3.out) a u e
   have e4:=ov_past (w:=w) HG4.out (Nat.le_refl _) (by have:=HZ.out;omega) a u e1
   have e5:=ov_past (w:=w) HG5.out (Nat.le_refl _) (by have:=HZ.out;omega) a u e4
   have e7:=ov_past (w:=w) g7 (by omega) (by have:=HZ.out;omega) a u e5
   exact ovz_sub HC.out G1.out a u e7
  ·have hsz:=(Array.getElem?_eq_some_iff.1 R22.out).1
   have hsz4:=(Array.getElem?_eq_some_iff.1 R42.out).1
   have h9:=HN3.out
   rw [send_map] at h9
   refine Sl.mono (fun a u e=>?_) (show Nts _ _ _ from by simpa using h9)
   have hgd:=ZDW.out
   have e4:=ov_past (w:=w) HG4.out (Nat.le_refl _) (by omega) a u e
   have e5:=ov_past (w:=w) HG5.out (Nat.le_refl _) (by omega) a u e4
   have e7:=ov_past (w:=w) g7 (by omega) (by omega) a u e5
   exact ovz_sub HC.out (GW2.out.trans GD) a u e7
 ·intro K HK
  try simp only [lzA,lzB,lzC]
  go_simp
  refine HK.out _ _ ⟨fun _=>HS.out _ GD,?_⟩
  clear HK K
  try simp only [Act.put,lzA,lzB,lzC,lzD,lzE,lzF]
  refine bO 4 (by kernel_rfl) rfl ?_
  intro K HK
  try simp only [lzA,lzB,lzC]
  go_simp
  go_at_call 70
  refine (ref_sendC (c:=c) (l:=x.net.map bytesM) (ms:=qm) _ (HC.out.trans (GW2.out.trans GD).sub) ?nv (Sl.mono (Grow.sub (Grow.trans G12.out GD)) (Sl.mono (ov_sub (HC.out.trans G1.out.sub) GZ1.out) HX2.out)) HRT.out (by rw [List.length_map];have:=H24.out;omega)).mono ?_
  case nv=>have h9:=HQ3.out;simpa using h9
  rintro e3 w3 ⟨v3,rfl,hn3,hb3⟩
  obtain ⟨a3,c3,rfl,-⟩:=id hn3
  have HN3:=Lib.hid hn3
  have G3:=Lib.hid (Grow.trans GD hb3)
  have GB3:=Lib.hid hb3
  have ZDW:=Lib.hid (GD).size
  clear hn3 hb3
  rw [send_map,List.length_map]
  refine HK.out _ _ ⟨fun _=>HS.out _ G3.out,?_⟩
  clear HK K
  try simp only [Act.put,lzA,lzB,lzC,lzD,lzE,lzF]
  refine bO 6 (by kernel_rfl) rfl ?_
  intro K HK
  refine wanted_go rfl ?_
  try simp only [lzA,lzB,lzC]
  refine wp_store_part (.tmp 260) (.tmp 255) (p:=0) (cells:=#[.slice al2 qh.log.length cl2,.int .i64 qh.boot,.int .i64 qh.next,.slice ao2 qh.opn.length co2]) (new:=#[.slice al2 qh.log.length cl2,.int .i64 qh.boot,.int .i64 qh.next,.slice ao2 qh.opn.length co2,.slice ah x.houses.length ch,.slice an x.net.length cn]) rfl rfl (by rfl) (row_grow R22.out G3.out) info_hd (by simp) (by rfl) (by rfl) ?_
  intro w4 r4 g4
  have R44:=Lib.hid r4
  have HG4:=Lib.hid g4
  have HS4:Hid (w4.cell? ⟨BH,0,none⟩ = some (.slice al2 qh.log.length cl2)∧w4.cell? ⟨BH,1,none⟩ = some (.int .i64 qh.boot)∧w4.cell? ⟨BH,2,none⟩ = some (.int .i64 qh.next)∧w4.cell? ⟨BH,3,none⟩ = some (.slice ao2 qh.opn.length co2)∧w4.cell? ⟨w.heap.size,5,none⟩ = some (.slice an x.net.length cn)):=Lib.hid (by obtain ⟨k0,k1,k2,k3,-⟩:=HS.out _ G3.out;obtain ⟨-,-,-,-,-,j5⟩:=cells6 r4;have hne:BH ≠ w.heap.size:=HBHN.out;exact ⟨cell_past k0 g4 hne,cell_past k1 g4 hne,cell_past k2 g4 hne,cell_past k3 g4 hne,j5⟩)
  clear r4 g4
  refine HK.out _ _ ⟨fun _=>HS4.out,?_⟩
  clear HK K
  try simp only [Act.put]
  refine bO 7 (by kernel_rfl) rfl ?_
  intro K HK
  try simp only [lzA,lzB,lzC]
  go_simp
  refine HK.out _ _ ⟨fun _=>HS4.out,?_⟩
  clear HK K
  try simp only [Act.put,lzA,lzB,lzC,lzD,lzE,lzF]
  refine bO 8 (by kernel_rfl) rfl ?_
  intro K HK
  refine wanted_go rfl ?_
  try simp only [lzA,lzB,lzC]
  refine wp_store_cell (.tmp 261) (.tmp 259) (v:=.slice a3 (sendA x.net qm).length c3) (new:=#[.slice al2 qh.log.length cl2,.int .i64 qh.boot,.int .i64 qh.next,.slice ao2 qh.opn.length co2,.slice ah x.houses.length ch,.slice a3 (sendA x.net qm).length c3]) rfl rfl (by rfl) (by rfl) R44.out info_nets (by simp) (by rfl) (by rfl) ?_
  intro w5 r5 g5
  have R55:=Lib.hid r5
  have HG5:=Lib.hid g5
  clear r5 g5
  refine HK.out _ _ ⟨fun h=>absurd rfl h,?_⟩
  clear HK K
  try simp only [Act.put]
  refine but_done (by kernel_rfl) ?_
  have R45:=Lib.hid (row_by (row_by (row_grow R42.out G3.out) HG4.out (by intro e;have:=Option.some.inj e;omega)) HG5.out (by intro e;have:=Option.some.inj e;omega))
  have G5:=Lib.hid (((GW2.out.trans G3.out).grown HG4.out (fun q hq=>by simp at hq;omega)).grown HG5.out (fun q hq=>by simp at hq;omega))
  obtain ⟨c0,c1,c2,c3x,c4,c5⟩:=cells6 R55.out
  have z2:w.heap.size < w5.heap.size:=(Array.getElem?_eq_some_iff.1 R55.out).1
  go_wp2_with (first | (refine wpList_store_row rfl (.tmp 4) (.tmp 262) rfl rfl rfl R45.out info_wd rfl rfl ?_))
  intro w7 r7 g7
  obtain ⟨p0,p1,p2,p3,p4,p5⟩:=cells6 r7
  clear c0 c1 c2 c3x c4 c5
  go_wp2
  refine bodyPost_ret (v:=.tuple #[.agg #[.slice al2 qh.log.length cl2,.int .i64 qh.boot,.int .i64 qh.next,.slice ao2 qh.opn.length co2,.slice ah x.houses.length ch,.slice a3 (sendA x.net qm).length c3],.int .i64 0]) (by simp [results,Try.results138,go_sem,p0,p1,p2,p3,p4,p5]) rfl ?_
  have G7:=G5.out.grown g7 (fun q hq=>by simp at hq;omega)
  rw [HE.out,HE2.out]
  refine ⟨_,rfl,Of.wd_mk ?_ (HQ2.out.mono (ov_in HC.out)) ?_,G7⟩
  ·refine HX1.out.mono fun a u e=>?_
   have e1:=ov_mono (Sub.refl _) (G12.out.trans G3.out) a u e
   have e4:=ov_past (w:=w) HG4.out (Nat.le_refl _) (by have:=HZ.out;omega) a u e1
   have e5:=ov_past (w:=w) HG5.out (Nat.le_refl _) (by have:=HZ.out;omega) a u e4
   have e7:=ov_past (w:=w) g7 (by omega) (by have:=HZ.out;omega) a u e5
   exact ovz_sub HC.out G1.out a u e7
  ·have hsz:=(Array.getElem?_eq_some_iff.1 R22.out).1
   have hsz4:=(Array.getElem?_eq_some_iff.1 R42.out).1
   have h9:=HN3.out
   rw [send_map] at h9
   refine Sl.mono (fun a u e=>?_) (show Nts _ _ _ from by simpa using h9)
   have hgd:=ZDW.out
   have e4:=ov_past (w:=w) HG4.out (Nat.le_refl _) (by omega) a u e
   have e5:=ov_past (w:=w) HG5.out (Nat.le_refl _) (by omega) a u e4
   have e7:=ov_past (w:=w) g7 (by omega) (by omega) a u e5
   exact ovz_sub HC.out (GW2.out.trans GD) a u e7
theorem ov_wide {c:CM} {W W0 w1:World} (hc:Sub c W.cell?) (h0:Grow W W0):Sub (ov c W0 w1) (ov c W w1):=fun a v e=>by
 have hs:=h0.size
 unfold ov at e ⊢
 split at e
 ·have hl:=World.block_lt_of_cell? W a (hc _ _ e)
  rw [if_pos hl];exact e
 ·rw [if_neg (by omega)];exact e
theorem begin_right {n:Nat} {G:Reg} {x:AW} {P:List Pt} (i:WI n G x) (hw:wrongE P x.houses.length = 0):∀ m ∈ beginM x.head P,wrongM m = 0:=by
 cases hf:fullE x.head with
 | true=>rw [(begin_full (P:=P) hf).2.1];intro m hm;simp at hm
 | false=>
  rw [i.core.len] at hw
  obtain ⟨c,h1,h2⟩:=i.core.begin hw hf
  exact WI.says h2
set_option maxRecDepth 100000 in
set_option maxHeartbeats 4000000 in
theorem ref_do_beginX {c:CM} {v vs:Value} {x:AW} {sn:Int} {sp:List Pt} {n:Nat} {G:Reg} {k:Nat} (w:World) (hc:Sub c w.cell?) (hv:Of Ty.wd c v x) (hs:Of Ty.st c vs ⟨1,sn,sp⟩) (hi:WI n G x) (hf:Few k x) (hk:k ≤ 1000) (hw:wrongE sp x.houses.length ≠ 0) :
  Calls Try.prog 138 #[v,vs] w fun e w'=>∃ v',e = .returned (.tuple #[v',.int .i64 (doErr x ⟨1,sn,sp⟩)])∧Of Ty.wd (ov c w w') v' (doA x ⟨1,sn,sp⟩)∧Grow w w':=by
 obtain ⟨al,cl,ao,co,ah,ch,an,cn,rfl⟩:=hv.wd_form
 obtain ⟨ap,cp,rfl⟩:=hs.st_form
 obtain ⟨q1,q2,q3⟩:=hv.wd_parts
 have HQ1:=Lib.hid q1
 have HQ2:=Lib.hid q2
 have HQ3:=Lib.hid q3
 have HSP:=Lib.hid hs.st_parts
 have HHD:=Lib.hid (hi.hdok hf hk)
 have HWI:=Lib.hid hi
 have HV:=Lib.hid hv
 have HC:=Lib.hid hc
 clear hc hv hs q1 q2 q3 hi hf
 obtain ⟨wa,hwa⟩:∃ y:World,y = w.alloc (.cells #[.slice al x.head.log.length cl,.int .i64 x.head.boot,.int .i64 x.head.next,.slice ao x.head.opn.length co,.slice ah x.houses.length ch,.slice an x.net.length cn] 93):=⟨_,rfl⟩
 obtain ⟨wb,hwb⟩:∃ y:World,y = wa.alloc (.cells #[.int .i64 1,.int .i64 sn,.slice ap sp.length cp] 164):=⟨_,rfl⟩
 obtain ⟨wz,hwz⟩:∃ y:World,y = wb.alloc (.cells #[.slice none 0 0,.int .i64 0,.int .i64 0,.slice none 0 0,.slice none 0 0,.slice none 0 0] 93):=⟨_,rfl⟩
 have hsa:wa.heap.size = w.heap.size + 1:=by rw [hwa];simp
 have hsb:wb.heap.size = w.heap.size + 2:=by rw [hwb];simp [hsa]
 have R2:Hid (wz.heap[w.heap.size]? = some (.cells #[.slice al x.head.log.length cl,.int .i64 x.head.boot,.int .i64 x.head.next,.slice ao x.head.opn.length co,.slice ah x.houses.length ch,.slice an x.net.length cn] 93 (0,0))):=Lib.hid (by rw [hwz,hwb,hwa];exact heap_later (heap_later (row_new _ _) _) _)
 have R3:Hid (wz.heap[w.heap.size + 1]? = some (.cells #[.int .i64 1,.int .i64 sn,.slice ap sp.length cp] 164 (0,0))):=Lib.hid (by rw [hwz,hwb,← hsa];exact heap_later (row_new _ _) _)
 have R4:Hid (wz.heap[w.heap.size + 2]? = some (.cells #[.slice none 0 0,.int .i64 0,.int .i64 0,.slice none 0 0,.slice none 0 0,.slice none 0 0] 93 (0,0))):=Lib.hid (by rw [hwz,← hsb];exact row_new _ _)
 have G1:Hid (Grow w wz):=Lib.hid (by rw [hwz,hwb,hwa];exact (((Grow.refl w).alloc _).alloc _).alloc _)
 have HZ:Hid (wz.heap.size = w.heap.size + 3):=Lib.hid (by rw [hwz];simp [hsb])
 go_enter Try.func138,Try.ntmps138
 go_upto_region 1 with fail
 rw [← hwa]
 try rw [hsa]
 rw [← hwb]
 try rw [hsb]
 rw [← hwz]
 clear hwa hwb hwz hsa hsb
 obtain ⟨c0,c1,c2,c3,c4,c5⟩:=cells6 R2.out
 obtain ⟨d0,d1,d2⟩:=cells3 R3.out
 have z2:w.heap.size < wz.heap.size:=(Array.getElem?_eq_some_iff.1 R2.out).1
 have z3:w.heap.size + 1 < wz.heap.size:=(Array.getElem?_eq_some_iff.1 R3.out).1
 go_cut [6] from 22 (fun s6 wc=>s6 = .bool (there x sn)∧wz = wc)
 case first=>
  by_cases h0:0 ≤ sn
  ·by_cases h1:sn < (x.net.length:Int)
   ·go_wp2
    go_meet
    case rel=>exact ⟨by first | rfl | (simp [there,h0,h1];done),rfl⟩
   ·go_wp2
    go_meet
    case rel=>exact ⟨by first | rfl | (simp [there,h0,h1];done) | (simp [there,h0];omega),rfl⟩
  ·go_wp2
   go_meet
   case rel=>exact ⟨by first | rfl | (simp [there];done) | (simp [there];omega),rfl⟩
 case rest=>
 obtain ⟨rfl,rfl⟩:=hcut
 have HE:Hid (doA x ⟨1,sn,sp⟩ = x):=Lib.hid (by unfold doA;simp [hw])
 have HE2:Hid (doErr x ⟨1,sn,sp⟩ = wrongE sp x.houses.length):=Lib.hid (by unfold doErr;simp [hw])
 have hbw:(wrongE sp x.houses.length != 0) = true:=by simp [hw]
 have HWP:=Lib.hid (ref_wrongParts (h:=(x.houses.length:Int)) wz (HSP.out.2.mono (HC.out.trans G1.out.sub)))
 clear hw
 generalize wrongE sp x.houses.length = we at *
 go_wp2_with fail
 refine HWP.out.mono ?_
 rintro e w1 ⟨rfl,hb1⟩
 have R21:=Lib.hid (row_grow R2.out hb1)
 have R41:=Lib.hid (row_grow R4.out hb1)
 have GW1:=Lib.hid (G1.out.trans hb1)
 clear hb1 c0 c1 c2 c3 c4 c5 d0 d1 d2 z2 z3
 obtain ⟨c0,c1,c2,c3,c4,c5⟩:=cells6 R21.out
 have z2:w.heap.size < w1.heap.size:=(Array.getElem?_eq_some_iff.1 R21.out).1
 go_wp2_with (first | (refine wpList_store_row rfl (.tmp 4) (.tmp 46) rfl rfl rfl R41.out info_wd rfl rfl ?_))
 intro w7 r7 g7
 obtain ⟨p0,p1,p2,p3,p4,p5⟩:=cells6 r7
 clear c0 c1 c2 c3 c4 c5
 go_wp2
 refine bodyPost_ret (v:=.tuple #[.agg #[.slice al x.head.log.length cl,.int .i64 x.head.boot,.int .i64 x.head.next,.slice ao x.head.opn.length co,.slice ah x.houses.length ch,.slice an x.net.length cn],.int .i64 we]) (by simp [results,Try.results138,go_sem,p0,p1,p2,p3,p4,p5]) rfl ?_
 have G7:=GW1.out.grown g7 (fun q hq=>by simp at hq;omega)
 rw [HE.out,HE2.out]
 exact ⟨_,rfl,HV.out.mono (ov_in HC.out),G7⟩
set_option maxRecDepth 100000 in
set_option maxHeartbeats 4000000 in
theorem ref_do_begin {c:CM} {v vs:Value} {x:AW} {sn:Int} {sp:List Pt} {n:Nat} {G:Reg} {k:Nat} (w:World) (hc:Sub c w.cell?) (hv:Of Ty.wd c v x) (hs:Of Ty.st c vs ⟨1,sn,sp⟩) (hi:WI n G x) (hf:Few k x) (hk:k ≤ 1000) (hw:wrongE sp x.houses.length = 0) :
  Calls Try.prog 138 #[v,vs] w fun e w'=>∃ v',e = .returned (.tuple #[v',.int .i64 (doErr x ⟨1,sn,sp⟩)])∧Of Ty.wd (ov c w w') v' (doA x ⟨1,sn,sp⟩)∧Grow w w':=by
 obtain ⟨al,cl,ao,co,ah,ch,an,cn,rfl⟩:=hv.wd_form
 obtain ⟨ap,cp,rfl⟩:=hs.st_form
 obtain ⟨q1,q2,q3⟩:=hv.wd_parts
 have HQ1:=Lib.hid q1
 have HQ2:=Lib.hid q2
 have HQ3:=Lib.hid q3
 have HSP:=Lib.hid hs.st_parts
 have HHD:=Lib.hid (hi.hdok hf hk)
 have HWI:=Lib.hid hi
 have HV:=Lib.hid hv
 have HC:=Lib.hid hc
 clear hc hv hs q1 q2 q3 hi hf
 obtain ⟨wa,hwa⟩:∃ y:World,y = w.alloc (.cells #[.slice al x.head.log.length cl,.int .i64 x.head.boot,.int .i64 x.head.next,.slice ao x.head.opn.length co,.slice ah x.houses.length ch,.slice an x.net.length cn] 93):=⟨_,rfl⟩
 obtain ⟨wb,hwb⟩:∃ y:World,y = wa.alloc (.cells #[.int .i64 1,.int .i64 sn,.slice ap sp.length cp] 164):=⟨_,rfl⟩
 obtain ⟨wz,hwz⟩:∃ y:World,y = wb.alloc (.cells #[.slice none 0 0,.int .i64 0,.int .i64 0,.slice none 0 0,.slice none 0 0,.slice none 0 0] 93):=⟨_,rfl⟩
 have hsa:wa.heap.size = w.heap.size + 1:=by rw [hwa];simp
 have hsb:wb.heap.size = w.heap.size + 2:=by rw [hwb];simp [hsa]
 have R2:Hid (wz.heap[w.heap.size]? = some (.cells #[.slice al x.head.log.length cl,.int .i64 x.head.boot,.int .i64 x.head.next,.slice ao x.head.opn.length co,.slice ah x.houses.length ch,.slice an x.net.length cn] 93 (0,0))):=Lib.hid (by rw [hwz,hwb,hwa];exact heap_later (heap_later (row_new _ _) _) _)
 have R3:Hid (wz.heap[w.heap.size + 1]? = some (.cells #[.int .i64 1,.int .i64 sn,.slice ap sp.length cp] 164 (0,0))):=Lib.hid (by rw [hwz,hwb,← hsa];exact heap_later (row_new _ _) _)
 have R4:Hid (wz.heap[w.heap.size + 2]? = some (.cells #[.slice none 0 0,.int .i64 0,.int .i64 0,.slice none 0 0,.slice none 0 0,.slice none 0 0] 93 (0,0))):=Lib.hid (by rw [hwz,← hsb];exact row_new _ _)
 have G1:Hid (Grow w wz):=Lib.hid (by rw [hwz,hwb,hwa];exact (((Grow.refl w).alloc _).alloc _).alloc _)
 have HZ:Hid (wz.heap.size = w.heap.size + 3):=Lib.hid (by rw [hwz];simp [hsb])
 go_enter Try.func138,Try.ntmps138
 go_upto_region 1 with fail
 rw [← hwa]
 try rw [hsa]
 rw [← hwb]
 try rw [hsb]
 rw [← hwz]
 clear hwa hwb hwz hsa hsb
 obtain ⟨c0,c1,c2,c3,c4,c5⟩:=cells6 R2.out
 obtain ⟨d0,d1,d2⟩:=cells3 R3.out
 have z2:w.heap.size < wz.heap.size:=(Array.getElem?_eq_some_iff.1 R2.out).1
 have z3:w.heap.size + 1 < wz.heap.size:=(Array.getElem?_eq_some_iff.1 R3.out).1
 go_cut [6] from 22 (fun s6 wc=>s6 = .bool (there x sn)∧wz = wc)
 case first=>
  by_cases h0:0 ≤ sn
  ·by_cases h1:sn < (x.net.length:Int)
   ·go_wp2
    go_meet
    case rel=>exact ⟨by first | rfl | (simp [there,h0,h1];done),rfl⟩
   ·go_wp2
    go_meet
    case rel=>exact ⟨by first | rfl | (simp [there,h0,h1];done) | (simp [there,h0];omega),rfl⟩
  ·go_wp2
   go_meet
   case rel=>exact ⟨by first | rfl | (simp [there];done) | (simp [there];omega),rfl⟩
 case rest=>
 obtain ⟨rfl,rfl⟩:=hcut
 have HE:Hid (doA x ⟨1,sn,sp⟩ = { x with head:=beginH x.head sp,net:=sendA x.net (beginM x.head sp) }):=Lib.hid (by unfold doA;simp [hw])
 have HE2:Hid (doErr x ⟨1,sn,sp⟩ = beginE x.head):=Lib.hid (by unfold doErr;simp [hw])
 have HWP:=Lib.hid (ref_wrongParts (h:=(x.houses.length:Int)) wz (HSP.out.2.mono (HC.out.trans G1.out.sub)))
 have h4:sp.length ≤ 4:=(wrong_ok hw).2.1
 have HRT:Hid (∀ m ∈ beginM x.head sp,wrongM m = 0):=Lib.hid (begin_right HWI.out hw)
 rw [hw] at HWP
 clear hw
 go_wp2_with fail
 refine HWP.out.mono ?_
 rintro e w0 ⟨rfl,hb0⟩
 have R20:=Lib.hid (row_grow R2.out hb0)
 have R30:=Lib.hid (row_grow R3.out hb0)
 have R40:=Lib.hid (row_grow R4.out hb0)
 have GW0:=Lib.hid (G1.out.trans hb0)
 have GZ0:=Lib.hid hb0
 clear hb0 c0 c1 c2 c3 c4 c5 d0 d1 d2 z2 z3
 obtain ⟨c0,c1,c2,c3,c4,c5⟩:=cells6 R20.out
 obtain ⟨d0,d1,d2⟩:=cells3 R30.out
 have z2:w.heap.size < w0.heap.size:=(Array.getElem?_eq_some_iff.1 R20.out).1
 have z3:w.heap.size + 1 < w0.heap.size:=(Array.getElem?_eq_some_iff.1 R30.out).1
 go_wp2_with fail
 refine (ref_begin (c:=c) (P:=sp) w0 (HC.out.trans GW0.out.sub) HQ1.out HSP.out.2 HHD.out h4).mono ?_
 rintro e w1 ⟨v1,v2,rfl,hx1,hx2,hb1⟩
 obtain ⟨al2,cl2,ao2,co2,rfl⟩:=hx1.hd_form
 obtain ⟨am,cm,rfl,-⟩:=id hx2
 have HX1:=Lib.hid (hx1.mono (ov_wide (HC.out.trans G1.out.sub) GZ0.out))
 have HX2:=Lib.hid (hx2.mono (ov_wide (HC.out.trans G1.out.sub) GZ0.out))
 have R21:=Lib.hid (row_grow R20.out hb1)
 have R41:=Lib.hid (row_grow R40.out hb1)
 have GZ1:=Lib.hid (GZ0.out.trans hb1)
 have H24:=Lib.hid HWI.out.len
 clear hx1 hx2 hb1 c0 c1 c2 c3 c4 c5 d0 d1 d2 z2 z3
 generalize hqh:beginH x.head sp = qh at *
 generalize hqm:beginM x.head sp = qm at *
 generalize hqe:beginE x.head = qe at *
 clear hqh hqm hqe
 go_upto_region 9 with fail
 obtain ⟨w2,hw2⟩:∃ y:World,y = w1.alloc (.cells #[.slice al2 qh.log.length cl2,.int .i64 qh.boot,.int .i64 qh.next,.slice ao2 qh.opn.length co2] 57):=⟨_,rfl⟩
 obtain ⟨BH,hBH⟩:∃ y,y = w1.heap.size:=⟨_,rfl⟩
 have G12:Hid (Grow w1 w2):=Lib.hid (by rw [hw2];exact (Grow.refl _).alloc _)
 have RH:Hid (w2.heap[BH]? = some (.cells #[.slice al2 qh.log.length cl2,.int .i64 qh.boot,.int .i64 qh.next,.slice ao2 qh.opn.length co2] 57 (0,0))):=Lib.hid (by rw [hw2,hBH];exact row_new _ _)
 have HBHN:Hid (BH ≠ w.heap.size):=Lib.hid (by have:=(Array.getElem?_eq_some_iff.1 R41.out).1;omega)
 rw [← hw2,← hBH]
 clear hw2 hBH
 have R22:=Lib.hid (row_grow R21.out G12.out)
 have R42:=Lib.hid (row_grow R41.out G12.out)
 have GW2:=Lib.hid (G1.out.trans (GZ1.out.trans G12.out))
 have HS:Hid (∀ W,Grow w2 W→W.cell? ⟨BH,0,none⟩ = some (.slice al2 qh.log.length cl2)∧W.cell? ⟨BH,1,none⟩ = some (.int .i64 qh.boot)∧W.cell? ⟨BH,2,none⟩ = some (.int .i64 qh.next)∧W.cell? ⟨BH,3,none⟩ = some (.slice ao2 qh.opn.length co2)∧W.cell? ⟨w.heap.size,5,none⟩ = some (.slice an x.net.length cn)):=fun W hW=>by
  obtain ⟨k0,k1,k2,k3⟩:=cells4 (row_grow RH.out hW)
  obtain ⟨-,-,-,-,-,j5⟩:=cells6 (row_grow R22.out hW)
  exact ⟨k0,k1,k2,k3,j5⟩
 refine but_start (fun w'=>w'.cell? ⟨BH,0,none⟩ = some (.slice al2 qh.log.length cl2)∧w'.cell? ⟨BH,1,none⟩ = some (.int .i64 qh.boot)∧w'.cell? ⟨BH,2,none⟩ = some (.int .i64 qh.next)∧w'.cell? ⟨BH,3,none⟩ = some (.slice ao2 qh.opn.length co2)∧w'.cell? ⟨w.heap.size,5,none⟩ = some (.slice an x.net.length cn)) 8 (by kernel_rfl) ?_
 obtain ⟨wd,hWd⟩:∃ x:World,x = w2.drew:=⟨_,rfl⟩
 rw [← hWd]
 have GD:Grow w2 wd:=by rw [hWd];exact (Grow.refl _).drew
 have zD:w2.heap.size = wd.heap.size:=by rw [hWd];rfl
 have ZD:=Lib.hid zD
 clear hWd zD
 refine bLm [0] 12 (by kernel_rfl) (fun _ _ _ _ _ h=>h) (HS.out _ GD) ?_
 repeat (refine tNm (v:=?_) rfl (by rfl) ?_ ?_;rotate_left;(· (intro w' hSw;(try dsimp only at hSw);obtain ⟨hs0,hs1,hs2,hs3,hs4⟩:=hSw;go_simp <;> with_reducible rfl));try simp only [Act.put,lzA,lzC,lzD,lzE,lzF])
 refine tEm ?_
 refine bLm [1,2,3] 12 (by kernel_rfl) (fun _ _ _ _ _ h=>h) (HS.out _ GD) ?_
 repeat (refine tNm (v:=?_) rfl (by rfl) ?_ ?_;rotate_left;(· (intro w' hSw;(try dsimp only at hSw);obtain ⟨hs0,hs1,hs2,hs3,hs4⟩:=hSw;go_simp <;> with_reducible rfl));try simp only [Act.put,lzA,lzB,lzC,lzD,lzE,lzF])
 refine tEm ?_
 refine bP 4 5 (by kernel_rfl) rfl rfl ?_ ?_
 ·intro K HK
  try simp only [lzA,lzB,lzC]
  go_simp
  go_at_call 70
  refine (ref_sendC (c:=c) (l:=x.net.map bytesM) (ms:=qm) _ (HC.out.trans (GW2.out.trans GD).sub) ?nv (Sl.mono (Grow.sub (Grow.trans G12.out GD)) (Sl.mono (ov_sub (HC.out.trans G1.out.sub) GZ1.out) HX2.out)) HRT.out (by rw [List.length_map];have:=H24.out;omega)).mono ?_
  case nv=>have h9:=HQ3.out;simpa using h9
  rintro e3 w3 ⟨v3,rfl,hn3,hb3⟩
  obtain ⟨a3,c3,rfl,-⟩:=id hn3
  have HN3:=Lib.hid hn3
  have G3:=Lib.hid (Grow.trans GD hb3)
  have GB3:=Lib.hid hb3
  have ZDW:=Lib.hid (GD).size
  clear hn3 hb3
  rw [send_map,List.length_map]
  refine HK.out _ _ ⟨fun _=>HS.out _ G3.out,?_⟩
  clear HK K
  try simp only [Act.put,lzA,lzB,lzC,lzD,lzE,lzF]
  refine bO 5 (by kernel_rfl) rfl ?_
  intro K HK
  try simp only [lzA,lzB,lzC]
  go_simp
  refine HK.out _ _ ⟨fun _=>HS.out _ G3.out,?_⟩
  clear HK K
  try simp only [Act.put,lzA,lzB,lzC,lzD,lzE,lzF]
  refine bO 6 (by kernel_rfl) rfl ?_
  intro K HK
  refine wanted_go rfl ?_
  try simp only [lzA,lzB,lzC]
  refine wp_store_part (.tmp 62) (.tmp 57) (p:=0) (cells:=#[.slice al2 qh.log.length cl2,.int .i64 qh.boot,.int .i64 qh.next,.slice ao2 qh.opn.length co2]) (new:=#[.slice al2 qh.log.length cl2,.int .i64 qh.boot,.int .i64 qh.next,.slice ao2 qh.opn.length co2,.slice ah x.houses.length ch,.slice an x.net.length cn]) rfl rfl (by rfl) (row_grow R22.out G3.out) info_hd (by simp) (by rfl) (by rfl) ?_
  intro w4 r4 g4
  have R44:=Lib.hid r4
  have HG4:=Lib.hid g4
  have HS4:Hid (w4.cell? ⟨BH,0,none⟩ = some (.slice al2 qh.log.length cl2)∧w4.cell? ⟨BH,1,none⟩ = some (.int .i64 qh.boot)∧w4.cell? ⟨BH,2,none⟩ = some (.int .i64 qh.next)∧w4.cell? ⟨BH,3,none⟩ = some (.slice ao2 qh.opn.length co2)∧w4.cell? ⟨w.heap.size,5,none⟩ = some (.slice an x.net.length cn)):=Lib.hid (by obtain ⟨k0,k1,k2,k3,-⟩:=HS.out _ G3.out;obtain ⟨-,-,-,-,-,j5⟩:=cells6 r4;have hne:BH ≠ w.heap.size:=HBHN.out;exact ⟨cell_past k0 g4 hne,cell_past k1 g4 hne,cell_past k2 g4 hne,cell_past k3 g4 hne,j5⟩)
  clear r4 g4
  refine HK.out _ _ ⟨fun _=>HS4.out,?_⟩
  clear HK K
  try simp only [Act.put]
  refine bO 7 (by kernel_rfl) rfl ?_
  intro K HK
  try simp only [lzA,lzB,lzC]
  go_simp
  refine HK.out _ _ ⟨fun _=>HS4.out,?_⟩
  clear HK K
  try simp only [Act.put,lzA,lzB,lzC,lzD,lzE,lzF]
  refine bO 8 (by kernel_rfl) rfl ?_
  intro K HK
  refine wanted_go rfl ?_
  try simp only [lzA,lzB,lzC]
  refine wp_store_cell (.tmp 63) (.tmp 61) (v:=.slice a3 (sendA x.net qm).length c3) (new:=#[.slice al2 qh.log.length cl2,.int .i64 qh.boot,.int .i64 qh.next,.slice ao2 qh.opn.length co2,.slice ah x.houses.length ch,.slice a3 (sendA x.net qm).length c3]) rfl rfl (by rfl) (by rfl) R44.out info_nets (by simp) (by rfl) (by rfl) ?_
  intro w5 r5 g5
  have R55:=Lib.hid r5
  have HG5:=Lib.hid g5
  clear r5 g5
  refine HK.out _ _ ⟨fun h=>absurd rfl h,?_⟩
  clear HK K
  try simp only [Act.put]
  refine but_done (by kernel_rfl) ?_
  have R45:=Lib.hid (row_by (row_by (row_grow R42.out G3.out) HG4.out (by intro e;have:=Option.some.inj e;omega)) HG5.out (by intro e;have:=Option.some.inj e;omega))
  have G5:=Lib.hid (((GW2.out.trans G3.out).grown HG4.out (fun q hq=>by simp at hq;omega)).grown HG5.out (fun q hq=>by simp at hq;omega))
  obtain ⟨c0,c1,c2,c3x,c4,c5⟩:=cells6 R55.out
  have z2:w.heap.size < w5.heap.size:=(Array.getElem?_eq_some_iff.1 R55.out).1
  go_wp2_with (first | (refine wpList_store_row rfl (.tmp 4) (.tmp 64) rfl rfl rfl R45.out info_wd rfl rfl ?_))
  intro w7 r7 g7
  obtain ⟨p0,p1,p2,p3,p4,p5⟩:=cells6 r7
  clear c0 c1 c2 c3x c4 c5
  go_wp2
  refine bodyPost_ret (v:=.tuple #[.agg #[.slice al2 qh.log.length cl2,.int .i64 qh.boot,.int .i64 qh.next,.slice ao2 qh.opn.length co2,.slice ah x.houses.length ch,.slice a3 (sendA x.net qm).length c3],.int .i64 qe]) (by simp [results,Try.results138,go_sem,p0,p1,p2,p3,p4,p5]) rfl ?_
  have G7:=G5.out.grown g7 (fun q hq=>by simp at hq;omega)
  rw [HE.out,HE2.out]
  refine ⟨_,rfl,Of.wd_mk ?_ (HQ2.out.mono (ov_in HC.out)) ?_,G7⟩
  ·refine HX1.out.mono fun a u e=>?_
   have e1:=ov_mono (Sub.refl _) (G12.out.trans G3.out) a u e
   have e4:=ov_past (w:=w) HG4.out (Nat.le_refl _) (by have:=HZ.out;omega) a u e1
   have e5:=ov_past (w:=w) HG5.out (Nat.le_refl _) (by have:=HZ.out;omega) a u e4
   have e7:=ov_past (w:=w) g7 (by omega) (by have:=HZ.out;omega) a u e5
   exact ovz_sub HC.out G1.out a u e7
  ·have hsz:=(Array.getElem?_eq_some_iff.1 R22.out).1
   have hsz4:=(Array.getElem?_eq_some_iff.1 R42.out).1
   have h9:=HN3.out
   rw [send_map] at h9
   refine Sl.mono (fun a u e=>?_) (show Nts _ _ _ from by simpa using h9)
   have hgd:=ZDW.out
   have e4:=ov_past (w:=w) HG4.out (Nat.le_refl _) (by omega) a u e
   have e5:=ov_past (w:=w) HG5.out (Nat.le_refl _) (by omega) a u e4
   have e7:=ov_past (w:=w) g7 (by omega) (by omega) a u e5
   exact ovz_sub HC.out (GW2.out.trans GD) a u e7
 ·intro K HK
  try simp only [lzA,lzB,lzC]
  go_simp
  refine HK.out _ _ ⟨fun _=>HS.out _ GD,?_⟩
  clear HK K
  try simp only [Act.put,lzA,lzB,lzC,lzD,lzE,lzF]
  refine bO 4 (by kernel_rfl) rfl ?_
  intro K HK
  try simp only [lzA,lzB,lzC]
  go_simp
  go_at_call 70
  refine (ref_sendC (c:=c) (l:=x.net.map bytesM) (ms:=qm) _ (HC.out.trans (GW2.out.trans GD).sub) ?nv (Sl.mono (Grow.sub (Grow.trans G12.out GD)) (Sl.mono (ov_sub (HC.out.trans G1.out.sub) GZ1.out) HX2.out)) HRT.out (by rw [List.length_map];have:=H24.out;omega)).mono ?_
  case nv=>have h9:=HQ3.out;simpa using h9
  rintro e3 w3 ⟨v3,rfl,hn3,hb3⟩
  obtain ⟨a3,c3,rfl,-⟩:=id hn3
  have HN3:=Lib.hid hn3
  have G3:=Lib.hid (Grow.trans GD hb3)
  have GB3:=Lib.hid hb3
  have ZDW:=Lib.hid (GD).size
  clear hn3 hb3
  rw [send_map,List.length_map]
  refine HK.out _ _ ⟨fun _=>HS.out _ G3.out,?_⟩
  clear HK K
  try simp only [Act.put,lzA,lzB,lzC,lzD,lzE,lzF]
  refine bO 6 (by kernel_rfl) rfl ?_
  intro K HK
  refine wanted_go rfl ?_
  try simp only [lzA,lzB,lzC]
  refine wp_store_part (.tmp 62) (.tmp 57) (p:=0) (cells:=#[.slice al2 qh.log.length cl2,.int .i64 qh.boot,.int .i64 qh.next,.slice ao2 qh.opn.length co2]) (new:=#[.slice al2 qh.log.length cl2,.int .i64 qh.boot,.int .i64 qh.next,.slice ao2 qh.opn.length co2,.slice ah x.houses.length ch,.slice an x.net.length cn]) rfl rfl (by rfl) (row_grow R22.out G3.out) info_hd (by simp) (by rfl) (by rfl) ?_
  intro w4 r4 g4
  have R44:=Lib.hid r4
  have HG4:=Lib.hid g4
  have HS4:Hid (w4.cell? ⟨BH,0,none⟩ = some (.slice al2 qh.log.length cl2)∧w4.cell? ⟨BH,1,none⟩ = some (.int .i64 qh.boot)∧w4.cell? ⟨BH,2,none⟩ = some (.int .i64 qh.next)∧w4.cell? ⟨BH,3,none⟩ = some (.slice ao2 qh.opn.length co2)∧w4.cell? ⟨w.heap.size,5,none⟩ = some (.slice an x.net.length cn)):=Lib.hid (by obtain ⟨k0,k1,k2,k3,-⟩:=HS.out _ G3.out;obtain ⟨-,-,-,-,-,j5⟩:=cells6 r4;have hne:BH ≠ w.heap.size:=HBHN.out;exact ⟨cell_past k0 g4 hne,cell_past k1 g4 hne,cell_past k2 g4 hne,cell_past k3 g4 hne,j5⟩)
  clear r4 g4
  refine HK.out _ _ ⟨fun _=>HS4.out,?_⟩
  clear HK K
  try simp only [Act.put]
  refine bO 7 (by kernel_rfl) rfl ?_
  intro K HK
  try simp only [lzA,lzB,lzC]
  go_simp
  refine HK.out _ _ ⟨fun _=>HS4.out,?_⟩
  clear HK K
  try simp only [Act.put,lzA,lzB,lzC,lzD,lzE,lzF]
  refine bO 8 (by kernel_rfl) rfl ?_
  intro K HK
  refine wanted_go rfl ?_
  try simp only [lzA,lzB,lzC]
  refine wp_store_cell (.tmp 63) (.tmp 61) (v:=.slice a3 (sendA x.net qm).length c3) (new:=#[.slice al2 qh.log.length cl2,.int .i64 qh.boot,.int .i64 qh.next,.slice ao2 qh.opn.length co2,.slice ah x.houses.length ch,.slice a3 (sendA x.net qm).length c3]) rfl rfl (by rfl) (by rfl) R44.out info_nets (by simp) (by rfl) (by rfl) ?_
  intro w5 r5 g5
  have R55:=Lib.hid r5
  have HG5:=Lib.hid g5
  clear r5 g5
  refine HK.out _ _ ⟨fun h=>absurd rfl h,?_⟩
  clear HK K
  try simp only [Act.put]
  refine but_done (by kernel_rfl) ?_
  have R45:=Lib.hid (row_by (row_by (row_grow R42.out G3.out) HG4.out (by intro e;have:=Option.some.inj e;omega)) HG5.out (by intro e;have:=Option.some.inj e;omega))
  have G5:=Lib.hid (((GW2.out.trans G3.out).grown HG4.out (fun q hq=>by simp at hq;omega)).grown HG5.out (fun q hq=>by simp at hq;omega))
  obtain ⟨c0,c1,c2,c3x,c4,c5⟩:=cells6 R55.out
  have z2:w.heap.size < w5.heap.size:=(Array.getElem?_eq_some_iff.1 R55.out).1
  go_wp2_with (first | (refine wpList_store_row rfl (.tmp 4) (.tmp 64) rfl rfl rfl R45.out info_wd rfl rfl ?_))
  intro w7 r7 g7
  obtain ⟨p0,p1,p2,p3,p4,p5⟩:=cells6 r7
  clear c0 c1 c2 c3x c4 c5
  go_wp2
  refine bodyPost_ret (v:=.tuple #[.agg #[.slice al2 qh.log.length cl2,.int .i64 qh.boot,.int .i64 qh.next,.slice ao2 qh.opn.length co2,.slice ah x.houses.length ch,.slice a3 (sendA x.net qm).length c3],.int .i64 qe]) (by simp [results,Try.results138,go_sem,p0,p1,p2,p3,p4,p5]) rfl ?_
  have G7:=G5.out.grown g7 (fun q hq=>by simp at hq;omega)
  rw [HE.out,HE2.out]
  refine ⟨_,rfl,Of.wd_mk ?_ (HQ2.out.mono (ov_in HC.out)) ?_,G7⟩
  ·refine HX1.out.mono fun a u e=>?_
   have e1:=ov_mono (Sub.refl _) (G12.out.trans G3.out) a u e
   have e4:=ov_past (w:=w) HG4.out (Nat.le_refl _) (by have:=HZ.out;omega) a u e1
   have e5:=ov_past (w:=w) HG5.out (Nat.le_refl _) (by have:=HZ.out;omega) a u e4
   have e7:=ov_past (w:=w) g7 (by omega) (by have:=HZ.out;omega) a u e5
   exact ovz_sub HC.out G1.out a u e7
  ·have hsz:=(Array.getElem?_eq_some_iff.1 R22.out).1
   have hsz4:=(Array.getElem?_eq_some_iff.1 R42.out).1
   have h9:=HN3.out
   rw [send_map] at h9
   refine Sl.mono (fun a u e=>?_) (show Nts _ _ _ from by simpa using h9)
   have hgd:=ZDW.out
   have e4:=ov_past (w:=w) HG4.out (Nat.le_refl _) (by omega) a u e
   have e5:=ov_past (w:=w) HG5.out (Nat.le_refl _) (by omega) a u e4
   have e7:=ov_past (w:=w) g7 (by omega) (by omega) a u e5
   exact ovz_sub HC.out (GW2.out.trans GD) a u e7
set_option maxRecDepth 100000 in
set_option maxHeartbeats 4000000 in
theorem ref_do_tick3 {c:CM} {v vs:Value} {x:AW} {sn:Int} {sp:List Pt} {n:Nat} {G:Reg} {k:Nat} (w:World) (hc:Sub c w.cell?) (hv:Of Ty.wd c v x) (hs:Of Ty.st c vs ⟨6,sn,sp⟩) (hi:WI n G x) (hf:Few k x) (hk:k ≤ 1000) (h3:sn = 3) :
  Calls Try.prog 138 #[v,vs] w fun e w'=>∃ v',e = .returned (.tuple #[v',.int .i64 (doErr x ⟨6,sn,sp⟩)])∧Of Ty.wd (ov c w w') v' (doA x ⟨6,sn,sp⟩)∧Grow w w':=by
 obtain ⟨al,cl,ao,co,ah,ch,an,cn,rfl⟩:=hv.wd_form
 obtain ⟨ap,cp,rfl⟩:=hs.st_form
 obtain ⟨q1,q2,q3⟩:=hv.wd_parts
 have HQ1:=Lib.hid q1
 have HQ2:=Lib.hid q2
 have HQ3:=Lib.hid q3
 have HSP:=Lib.hid hs.st_parts
 have HHD:=Lib.hid (hi.hdok hf hk)
 have HWI:=Lib.hid hi
 have HV:=Lib.hid hv
 have HC:=Lib.hid hc
 have H3:=Lib.hid h3
 clear h3
 clear hc hv hs q1 q2 q3 hi hf
 obtain ⟨wa,hwa⟩:∃ y:World,y = w.alloc (.cells #[.slice al x.head.log.length cl,.int .i64 x.head.boot,.int .i64 x.head.next,.slice ao x.head.opn.length co,.slice ah x.houses.length ch,.slice an x.net.length cn] 93):=⟨_,rfl⟩
 obtain ⟨wb,hwb⟩:∃ y:World,y = wa.alloc (.cells #[.int .i64 6,.int .i64 sn,.slice ap sp.length cp] 164):=⟨_,rfl⟩
 obtain ⟨wz,hwz⟩:∃ y:World,y = wb.alloc (.cells #[.slice none 0 0,.int .i64 0,.int .i64 0,.slice none 0 0,.slice none 0 0,.slice none 0 0] 93):=⟨_,rfl⟩
 have hsa:wa.heap.size = w.heap.size + 1:=by rw [hwa];simp
 have hsb:wb.heap.size = w.heap.size + 2:=by rw [hwb];simp [hsa]
 have R2:Hid (wz.heap[w.heap.size]? = some (.cells #[.slice al x.head.log.length cl,.int .i64 x.head.boot,.int .i64 x.head.next,.slice ao x.head.opn.length co,.slice ah x.houses.length ch,.slice an x.net.length cn] 93 (0,0))):=Lib.hid (by rw [hwz,hwb,hwa];exact heap_later (heap_later (row_new _ _) _) _)
 have R3:Hid (wz.heap[w.heap.size + 1]? = some (.cells #[.int .i64 6,.int .i64 sn,.slice ap sp.length cp] 164 (0,0))):=Lib.hid (by rw [hwz,hwb,← hsa];exact heap_later (row_new _ _) _)
 have R4:Hid (wz.heap[w.heap.size + 2]? = some (.cells #[.slice none 0 0,.int .i64 0,.int .i64 0,.slice none 0 0,.slice none 0 0,.slice none 0 0] 93 (0,0))):=Lib.hid (by rw [hwz,← hsb];exact row_new _ _)
 have G1:Hid (Grow w wz):=Lib.hid (by rw [hwz,hwb,hwa];exact (((Grow.refl w).alloc _).alloc _).alloc _)
 have HZ:Hid (wz.heap.size = w.heap.size + 3):=Lib.hid (by rw [hwz];simp [hsb])
 go_enter Try.func138,Try.ntmps138
 go_upto_region 1 with fail
 rw [← hwa]
 try rw [hsa]
 rw [← hwb]
 try rw [hsb]
 rw [← hwz]
 clear hwa hwb hwz hsa hsb
 obtain ⟨c0,c1,c2,c3,c4,c5⟩:=cells6 R2.out
 obtain ⟨d0,d1,d2⟩:=cells3 R3.out
 have z2:w.heap.size < wz.heap.size:=(Array.getElem?_eq_some_iff.1 R2.out).1
 have z3:w.heap.size + 1 < wz.heap.size:=(Array.getElem?_eq_some_iff.1 R3.out).1
 go_cut [6] from 22 (fun s6 wc=>s6 = .bool (there x sn)∧wz = wc)
 case first=>
  by_cases h0:0 ≤ sn
  ·by_cases h1:sn < (x.net.length:Int)
   ·go_wp2
    go_meet
    case rel=>exact ⟨by first | rfl | (simp [there,h0,h1];done),rfl⟩
   ·go_wp2
    go_meet
    case rel=>exact ⟨by first | rfl | (simp [there,h0,h1];done) | (simp [there,h0];omega),rfl⟩
  ·go_wp2
   go_meet
   case rel=>exact ⟨by first | rfl | (simp [there];done) | (simp [there];omega),rfl⟩
 case rest=>
 obtain ⟨rfl,rfl⟩:=hcut
 have HE:Hid (doA x ⟨6,sn,sp⟩ = { x with net:=sendA x.net (tickE x.head) }):=Lib.hid (by unfold doA tickA;simp [H3.out])
 have HE2:Hid (doErr x ⟨6,sn,sp⟩ = 0):=Lib.hid (by unfold doErr;simp [H3.out])
 have hb33:(sn == 3) = true:=by simp [H3.out]
 have HRT:Hid (∀ m ∈ tickE x.head,wrongM m = 0):=Lib.hid (WI.says (tickE_ok HWI.out.core))
 have H24:=Lib.hid HWI.out.len
 clear H3
 go_upto_region 41 with fail
 have HS:Hid (∀ W,Grow wz W→W.cell? ⟨w.heap.size,0,none⟩ = some (.slice al x.head.log.length cl)∧W.cell? ⟨w.heap.size,1,none⟩ = some (.int .i64 x.head.boot)∧W.cell? ⟨w.heap.size,2,none⟩ = some (.int .i64 x.head.next)∧W.cell? ⟨w.heap.size,3,none⟩ = some (.slice ao x.head.opn.length co)∧W.cell? ⟨w.heap.size,5,none⟩ = some (.slice an x.net.length cn)):=fun W hW=>by
  obtain ⟨j0,j1,j2,j3,-,j5⟩:=cells6 (row_grow R2.out hW)
  exact ⟨j0,j1,j2,j3,j5⟩
 clear c0 c1 c2 c3 c4 c5 d0 d1 d2 z2 z3
 refine but_start (fun w'=>w'.cell? ⟨w.heap.size,0,none⟩ = some (.slice al x.head.log.length cl)∧w'.cell? ⟨w.heap.size,1,none⟩ = some (.int .i64 x.head.boot)∧w'.cell? ⟨w.heap.size,2,none⟩ = some (.int .i64 x.head.next)∧w'.cell? ⟨w.heap.size,3,none⟩ = some (.slice ao x.head.opn.length co)∧w'.cell? ⟨w.heap.size,5,none⟩ = some (.slice an x.net.length cn)) 7 (by kernel_rfl) ?_
 obtain ⟨wd,hWd⟩:∃ x:World,x = wz.drew:=⟨_,rfl⟩
 rw [← hWd]
 have GD:Grow wz wd:=by rw [hWd];exact (Grow.refl _).drew
 have zD:wz.heap.size = wd.heap.size:=by rw [hWd];rfl
 have ZD:=Lib.hid zD
 clear hWd zD
 refine bLm [0] 12 (by kernel_rfl) (fun _ _ _ _ _ h=>h) (HS.out _ GD) ?_
 repeat (refine tNm (v:=?_) rfl (by rfl) ?_ ?_;rotate_left;(· (intro w' hSw;(try dsimp only at hSw);obtain ⟨hs0,hs1,hs2,hs3,hs4⟩:=hSw;go_simp <;> with_reducible rfl));try simp only [Act.put,lzA,lzC,lzD,lzE,lzF])
 refine tEm ?_
 refine bLm [1,2,3] 12 (by kernel_rfl) (fun _ _ _ _ _ h=>h) (HS.out _ GD) ?_
 repeat (refine tNm (v:=?_) rfl (by rfl) ?_ ?_;rotate_left;(· (intro w' hSw;(try dsimp only at hSw);obtain ⟨hs0,hs1,hs2,hs3,hs4⟩:=hSw;go_simp <;> with_reducible rfl));try simp only [Act.put,lzA,lzB,lzC,lzD,lzE,lzF])
 refine tEm ?_
 refine bO 4 (by kernel_rfl) rfl ?_
 intro K HK
 try simp only [lzA,lzB,lzC]
 go_simp
 go_at_call 109
 refine (ref_headTick _ (HQ1.out.mono (HC.out.trans (G1.out.trans GD).sub)) HHD.out).mono ?_
 rintro e1 w1 ⟨v1,rfl,ho1,hb1⟩
 obtain ⟨a1,c1,rfl⟩:=ho1.form
 have HM1:=Lib.hid (ho1.sl (by decide) (fr_sub _ _ _))
 have GT1:=Lib.hid (Grow.trans GD hb1)
 clear ho1 hb1
 generalize tickE x.head = qm at *
 refine HK.out _ _ ⟨fun _=>HS.out _ GT1.out,?_⟩
 clear HK K
 try simp only [Act.put,lzA,lzB,lzC,lzD,lzE,lzF]
 refine bO 5 (by kernel_rfl) rfl ?_
 intro K HK
 try simp only [lzA,lzB,lzC]
 go_simp
 go_at_call 70
 refine (ref_sendC (c:=c) (l:=x.net.map bytesM) (ms:=qm) _ (HC.out.trans (G1.out.trans GT1.out).sub) ?nv HM1.out HRT.out (by rw [List.length_map];have:=H24.out;omega)).mono ?_
 case nv=>have h9:=HQ3.out;simpa using h9
 rintro e3 w3 ⟨v3,rfl,hn3,hb3⟩
 obtain ⟨a3,c3,rfl,-⟩:=id hn3
 have HN3:=Lib.hid hn3
 have G3:=Lib.hid (Grow.trans GT1.out hb3)
 have ZDW:=Lib.hid (GT1.out).size
 clear hn3 hb3
 rw [send_map,List.length_map]
 refine HK.out _ _ ⟨fun _=>HS.out _ G3.out,?_⟩
 clear HK K
 try simp only [Act.put,lzA,lzB,lzC,lzD,lzE,lzF]
 refine bO 6 (by kernel_rfl) rfl ?_
 intro K HK
 try simp only [lzA,lzB,lzC]
 go_simp
 refine HK.out _ _ ⟨fun _=>HS.out _ G3.out,?_⟩
 clear HK K
 try simp only [Act.put,lzA,lzB,lzC,lzD,lzE,lzF]
 refine bO 7 (by kernel_rfl) rfl ?_
 intro K HK
 refine wanted_go rfl ?_
 try simp only [lzA,lzB,lzC]
 refine wp_store_cell (.tmp 220) (.tmp 219) (v:=.slice a3 (sendA x.net qm).length c3) (new:=#[.slice al x.head.log.length cl,.int .i64 x.head.boot,.int .i64 x.head.next,.slice ao x.head.opn.length co,.slice ah x.houses.length ch,.slice a3 (sendA x.net qm).length c3]) rfl rfl (by rfl) (by rfl) (row_grow R2.out G3.out) info_nets (by simp) (by rfl) (by rfl) ?_
 intro w5 r5 g5
 have R55:=Lib.hid r5
 have HG5:=Lib.hid g5
 clear r5 g5
 refine HK.out _ _ ⟨fun h=>absurd rfl h,?_⟩
 clear HK K
 try simp only [Act.put]
 refine but_done (by kernel_rfl) ?_
 have R45:=Lib.hid (row_by (row_grow R4.out G3.out) HG5.out (by intro e;have:=Option.some.inj e;omega))
 have G5:=Lib.hid ((G1.out.trans G3.out).grown HG5.out (fun q hq=>by simp at hq;omega))
 obtain ⟨c0,c1x,c2,c3x,c4,c5⟩:=cells6 R55.out
 have z2:w.heap.size < w5.heap.size:=(Array.getElem?_eq_some_iff.1 R55.out).1
 go_wp2_with (first | (refine wpList_store_row rfl (.tmp 4) (.tmp 221) rfl rfl rfl R45.out info_wd rfl rfl ?_))
 intro w7 r7 g7
 obtain ⟨p0,p1,p2,p3,p4,p5⟩:=cells6 r7
 clear c0 c1x c2 c3x c4 c5
 go_wp2
 refine bodyPost_ret (v:=.tuple #[.agg #[.slice al x.head.log.length cl,.int .i64 x.head.boot,.int .i64 x.head.next,.slice ao x.head.opn.length co,.slice ah x.houses.length ch,.slice a3 (sendA x.net qm).length c3],.int .i64 0]) (by simp [results,Try.results138,go_sem,p0,p1,p2,p3,p4,p5]) rfl ?_
 have G7:=G5.out.grown g7 (fun q hq=>by simp at hq;omega)
 rw [HE.out,HE2.out]
 refine ⟨_,rfl,Of.wd_mk (HQ1.out.mono (ov_in HC.out)) (HQ2.out.mono (ov_in HC.out)) ?_,G7⟩
 have h9:=HN3.out
 rw [send_map] at h9
 refine Sl.mono (fun a u e=>?_) (show Nts _ _ _ from by simpa using h9)
 have hgd:=ZDW.out
 have hz:=HZ.out
 have e5:=ov_past (w:=w) HG5.out (Nat.le_refl _) (by omega) a u e
 have e7:=ov_past (w:=w) g7 (by omega) (by omega) a u e5
 exact ovz_sub HC.out (G1.out.trans GT1.out) a u e7
end Go.Proofs.Ytgbhpghgohggcaa
