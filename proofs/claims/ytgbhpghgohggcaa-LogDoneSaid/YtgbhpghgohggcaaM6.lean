/- Walks: Decided of the program and of the document's answer. -/
import Derived.Test.YtgbhpghgohggcaaM5
import Derived.Test.YtgbhpghgohggcaaS6
namespace Go.Proofs.Ytgbhpghgohggcaa
open Go.RowKit
theorem dec_len (l : List Rc) : (decidedR l).length ≤ l.length := by
  unfold decidedR
  rw [List.length_map]
  exact List.length_filter_le _ _
set_option maxRecDepth 100000 in
set_option maxHeartbeats 2000000 in
theorem wlog_decided {v : Value} {l : List Rc} (w : World) (hv : Rcs w.cell? v l) (hm : l.length * 40 ≤ 140737488355328) (hp : ∀ r ∈ l, r.parts.length * 24 ≤ 140737488355328) :
    Calls Try.prog 45 #[v] w fun e w' => ∃ v', e = .returned v' ∧ OwnC Ty.rd (fr w w' [v'.ownBlock]) w' w.heap.size 45 v' (decidedR l) ∧ Grow w w' := by
  obtain ⟨a, cap, rfl, h1, h2, -, hel⟩ := hv
  unfold maxLen at h2
  have HM := Lib.hid hm
  have HP := Lib.hid hp
  clear hm hp
  go_enter Try.func45, Try.ntmps45
  go_wp2
  go_loopw [3, 8] (fun s3 i wr => ∃ k : Nat, k ≤ l.length ∧ i = .int .i64 k ∧ Grow w wr ∧ OwnC Ty.rd (fr w wr [s3.ownBlock]) wr w.heap.size 45 s3 (decidedR (l.take k))) (fun _ i _ => l.length - (intOf i).toNat)
  case atStart => exact ⟨0, by omega, rfl, Grow.refl _, OwnC.nil _ _ _ _ _⟩
  case round =>
    obtain ⟨k, hk', rfl, hb, hown⟩ := hrel
    by_cases hlt : k < l.length
    · obtain ⟨b, o, vp, rfl, c0, c1, c2, i0, i1, hP⟩ := Rcs.at_ hel k hlt
      obtain ⟨ap, cp, rfl, -⟩ := id hP
      replace c0 := hb.sub _ _ c0
      replace c1 := hb.sub _ _ c1
      replace c2 := hb.sub _ _ c2
      have htk : decidedR (l.take (k + 1)) = if l[k].kind = 5 then decidedR (l.take k) ++ [⟨l[k].deed, l[k].parts⟩] else decidedR (l.take k) := by rw [List.take_succ_eq_append_getElem hlt, dec_snoc]
      have HTK := Lib.hid htk
      have hpl := HP.out l[k] (List.getElem_mem _)
      have hok := Pts.ok (c := w.cell?) hP
      have HCL := Lib.hid (fun (W : World) (hW : Grow wr W) => clone_pt W (hP.mono (hb.trans hW).sub) hpl)
      have hlk : (decidedR (l.take k)).length ≤ l.length := Nat.le_trans (dec_len _) (by simp; omega)
      have HOWN := Lib.hid hown
      have HI := Lib.hid (And.intro i0 (And.intro i1 hok))
      obtain ⟨av, cv, rfl⟩ := hown.form
      have HLK := Lib.hid hlk
      clear hel hP htk hpl hok hown i0 i1 hlk
      generalize l[k] = r at *
      generalize decidedR (l.take k) = ds at *
      by_cases h5 : r.kind = 5
      · have b5 : (r.kind == 5) = true := by simp [h5]
        have HK5 := Lib.hid h5
        clear h5
        go_wp2
        obtain ⟨w2, hWE⟩ : ∃ x : World, x = wr.alloc (.cells #[.int .i64 r.kind, .int .i64 r.deed, .slice ap r.parts.length cp] 48) := ⟨_, rfl⟩
        rw [← hWE]
        have HG2 : Hid (Grow wr w2) := Lib.hid (by rw [hWE]; exact (Grow.refl wr).alloc _)
        have r5 : w2.heap[wr.heap.size]? = some (.cells #[.int .i64 r.kind, .int .i64 r.deed, .slice ap r.parts.length cp] 48 (0, 0)) := by rw [hWE]; exact row_new _ _
        clear hWE
        obtain ⟨-, q1, q2⟩ := cells3 r5
        have l5 : wr.heap.size < w2.heap.size := (Array.getElem?_eq_some_iff.1 r5).1
        have n5 : (Value.slice av ds.length cv).ownBlock ≠ some wr.heap.size := fun e => by have := (HOWN.out.lt _ e).2; omega
        have HS : Hid (∀ W, w2.grownBy W (Value.slice av ds.length cv).ownBlock → W.cell? ⟨wr.heap.size, 1, none⟩ = some (.int .i64 r.deed) ∧ W.cell? ⟨wr.heap.size, 2, none⟩ = some (.slice ap r.parts.length cp)) := fun W hW => ⟨by rw [World.cell?_of_block (hW.block wr.heap.size l5 (fun e => n5 e.symm))]; exact q1, by rw [World.cell?_of_block (hW.block wr.heap.size l5 (fun e => n5 e.symm))]; exact q2⟩
        clear q1 q2 r5
        refine but_start (fun w' => w'.cell? ⟨wr.heap.size, 1, none⟩ = some (.int .i64 r.deed) ∧ w'.cell? ⟨wr.heap.size, 2, none⟩ = some (.slice ap r.parts.length cp)) 9 (by kernel_rfl) ?_
        obtain ⟨wd, hWd⟩ : ∃ x : World, x = w2.drew := ⟨_, rfl⟩
        rw [← hWd]
        have GD : Grow w2 wd := by rw [hWd]; exact (Grow.refl _).drew
        have zD : w2.heap.size = wd.heap.size := by rw [hWd]; rfl
        have ZD := Lib.hid zD
        clear hWd zD
        refine but_take (i := 0) (v := ?_) 8 rfl (by kernel_rfl) (by kernel_rfl) (by kernel_rfl) (by kernel_rfl) (by kernel_rfl) (fun _ _ _ h => h) (HS.out _ (grownBy_of_grow GD _)) (Or.inl ⟨by rfl, ?_⟩) ?_
        rotate_left
        · (intro w' hSw; (try dsimp only at hSw); obtain ⟨hs0, hs1⟩ := hSw; go_simp <;> with_reducible rfl)
        try simp only [Act.put, List.getElem_toArray, List.getElem_cons_succ, List.getElem_cons_zero, List.setIfInBounds_toArray, List.set_cons_zero, List.set_cons_succ]
        refine but_take (i := 1) (v := ?_) 8 rfl (by kernel_rfl) (by kernel_rfl) (by kernel_rfl) (by kernel_rfl) (by kernel_rfl) (fun _ _ _ h => h) (HS.out _ (grownBy_of_grow GD _)) (Or.inl ⟨by rfl, ?_⟩) ?_
        rotate_left
        · (intro w' hSw; (try dsimp only at hSw); obtain ⟨hs0, hs1⟩ := hSw; go_simp <;> with_reducible rfl)
        try simp only [Act.put, List.getElem_toArray, List.getElem_cons_succ, List.getElem_cons_zero, List.setIfInBounds_toArray, List.set_cons_zero, List.set_cons_succ]
        refine but_take (i := 2) (v := ?_) 8 rfl (by kernel_rfl) (by kernel_rfl) (by kernel_rfl) (by kernel_rfl) (by kernel_rfl) (fun _ _ _ h => h) (HS.out _ (grownBy_of_grow GD _)) (Or.inl ⟨by rfl, ?_⟩) ?_
        rotate_left
        · (intro w' hSw; (try dsimp only at hSw); obtain ⟨hs0, hs1⟩ := hSw; go_simp <;> with_reducible rfl)
        try simp only [Act.put, List.getElem_toArray, List.getElem_cons_succ, List.getElem_cons_zero, List.setIfInBounds_toArray, List.set_cons_zero, List.set_cons_succ]
        refine but_take (i := 3) (v := ?_) 8 rfl (by kernel_rfl) (by kernel_rfl) (by kernel_rfl) (by kernel_rfl) (by kernel_rfl) (fun _ _ _ h => h) (HS.out _ (grownBy_of_grow GD _)) (Or.inl ⟨by rfl, ?_⟩) ?_
        rotate_left
        · (intro w' hSw; (try dsimp only at hSw); obtain ⟨hs0, hs1⟩ := hSw; go_simp <;> with_reducible rfl)
        try simp only [Act.put, List.getElem_toArray, List.getElem_cons_succ, List.getElem_cons_zero, List.setIfInBounds_toArray, List.set_cons_zero, List.set_cons_succ]
        refine but_take (i := 4) (v := ?_) 8 rfl (by kernel_rfl) (by kernel_rfl) (by kernel_rfl) (by kernel_rfl) (by kernel_rfl) (fun _ _ _ h => h) (HS.out _ (grownBy_of_grow GD _)) (Or.inl ⟨by rfl, ?_⟩) ?_
        rotate_left
        · (intro w' hSw; (try dsimp only at hSw); obtain ⟨hs0, hs1⟩ := hSw; go_simp <;> with_reducible rfl)
        try simp only [Act.put, List.getElem_toArray, List.getElem_cons_succ, List.getElem_cons_zero, List.setIfInBounds_toArray, List.set_cons_zero, List.set_cons_succ]
        refine but_one (i := 5) (by kernel_rfl) rfl ?_
        intro K HK'
        have HK := Lib.hid HK'
        clear HK'
        skip
        try simp only [List.getElem_toArray, List.getElem_cons_succ, List.getElem_cons_zero]
        go_simp
        go_at_call 122
        refine (HCL.out _ (HG2.out.trans GD)).mono ?_
        rintro e w3 ⟨v3, rfl, ho3, hb3⟩
        obtain ⟨a3, c3, rfl⟩ := owns_form ho3
        have HO3 := Lib.hid ho3
        have G3 := GD.trans hb3
        clear ho3 hb3
        refine HK.out _ _ ⟨fun _ => HS.out _ (grownBy_of_grow G3 _), ?_⟩
        clear HK K
        try simp only [Act.put, List.getElem_toArray, List.getElem_cons_succ, List.getElem_cons_zero, List.setIfInBounds_toArray, List.set_cons_zero, List.set_cons_succ]
        refine but_one (i := 6) (by kernel_rfl) rfl ?_
        intro K HK'
        have HK := Lib.hid HK'
        clear HK'
        skip
        try simp only [List.getElem_toArray, List.getElem_cons_succ, List.getElem_cons_zero]
        go_simp
        refine HK.out _ _ ⟨fun _ => HS.out _ (grownBy_of_grow G3 _), ?_⟩
        clear HK K
        try simp only [Act.put, List.getElem_toArray, List.getElem_cons_succ, List.getElem_cons_zero, List.setIfInBounds_toArray, List.set_cons_zero, List.set_cons_succ]
        refine but_one (i := 7) (by kernel_rfl) rfl ?_
        intro K HK'
        have HK := Lib.hid HK'
        clear HK'
        skip
        try simp only [List.getElem_toArray, List.getElem_cons_succ, List.getElem_cons_zero]
        go_simp
        refine HK.out _ _ ⟨fun _ => HS.out _ (grownBy_of_grow (G3.alloc _) _), ?_⟩
        clear HK K
        try simp only [Act.put, List.getElem_toArray, List.getElem_cons_succ, List.getElem_cons_zero, List.setIfInBounds_toArray, List.set_cons_zero, List.set_cons_succ]
        refine but_one (i := 8) (by kernel_rfl) rfl ?_
        intro K HK'
        have HK := Lib.hid HK'
        clear HK'
        refine wanted_go rfl ?_
        try simp only [List.getElem_toArray, List.getElem_cons_succ, List.getElem_cons_zero]
        have hR9 : Ty.rd.R (fr w (w3.alloc (.cells #[.int .i64 r.deed, .slice a3 r.parts.length c3] 45)) [(Value.slice av ds.length cv).ownBlock]) (#[.int .i64 r.deed, .slice a3 r.parts.length c3] : Array Value).toList ⟨r.deed, r.parts⟩ := by
          refine ⟨_, rfl, HI.out.2.1, pts_fr (w1 := wd) ((HO3.out).kept (grownBy_of_grow ((Grow.refl _).alloc _) none) (by cases (Value.slice a3 r.parts.length c3).ownBlock <;> simp)) HI.out.2.2 (by have := hb.size; have := HG2.out.size; have := GD.size; omega) fun q hq => ?_⟩
          have z1 := HOWN.out.lt
          have z4 := HG2.out.size
          have z6 := GD.size
          simp only [List.mem_cons, List.not_mem_nil, or_false]
          exact fun e => by have := (z1 q e.symm).2; omega
        have HR9 := Lib.hid hR9
        clear hR9
        refine wp_appc (c := (fr w (w3.alloc (.cells #[.int .i64 r.deed, .slice a3 r.parts.length c3] 45)) [(Value.slice av ds.length cv).ownBlock])) (base := w.heap.size) (l := ds) (m := [⟨r.deed, r.parts⟩]) ei_rd rfl one_Trd (by decide) (.tmp 15) (.tmp 22) rfl rfl ((HOWN.out.mono (fr_grow (HG2.out.trans (G3.alloc _)))).grow (HG2.out.trans (G3.alloc _))) rfl (Src.of_new (T := Ty.rd) (cs := #[.int .i64 r.deed, .slice a3 r.parts.length c3]) HR9.out _ _ rfl) (by have := HM.out; have := HLK.out; simp; omega) (by have := hb.size; have := HG2.out.size; have := G3.size; (try simp); omega) ?_
        intro a9 c9 w9 ho9 hg9 hb9
        have HO9 := Lib.hid (ho9.mono (fr_app hg9 (hb9.imp_right fun ⟨g, e, hge⟩ => ⟨g, e, by simpa using hge⟩)))
        have GB9 := Lib.hid (grownBy_trans (grownBy_of_grow (G3.alloc _) _) hg9)
        have HG9 : Hid (Grow w w9) := Lib.hid (grow_by (w0 := w) (hb.trans (HG2.out.trans (G3.alloc _))) hg9 (fun q hq => (HOWN.out.lt q hq).1))
        clear ho9 hg9 hb9
        refine HK.out _ _ ⟨fun _ => HS.out _ GB9.out, ?_⟩
        clear HK K
        try simp only [Act.put, List.getElem_toArray, List.getElem_cons_succ, List.getElem_cons_zero, List.setIfInBounds_toArray, List.set_cons_zero, List.set_cons_succ]
        refine but_one (i := 9) (by kernel_rfl) rfl ?_
        intro K HK'
        have HK := Lib.hid HK'
        clear HK'
        skip
        try simp only [List.getElem_toArray, List.getElem_cons_succ, List.getElem_cons_zero]
        go_simp
        refine HK.out _ _ ⟨fun h => absurd rfl h, ?_⟩
        clear HK K
        try simp only [Act.put, List.getElem_toArray, List.getElem_cons_succ, List.getElem_cons_zero, List.setIfInBounds_toArray, List.set_cons_zero, List.set_cons_succ]
        refine but_done (by kernel_rfl) ?_
        go_wp2
        go_roundw
        case rel => exact ⟨k + 1, by omega, by go_num, HG9.out, by rw [HTK.out, if_pos HK5.out]; exact HO9.out⟩
        case measure => simp [intOf]; omega
      · have b5 : (r.kind == 5) = false := by simp [h5]
        have HK5 := Lib.hid h5
        clear h5
        go_wp2
        go_roundw
        case rel => exact ⟨k + 1, by omega, by go_num, hb.alloc _, by rw [HTK.out, if_neg HK5.out]; exact (HOWN.out.mono (fr_grow ((Grow.refl _).alloc _))).grow ((Grow.refl _).alloc _)⟩
        case measure => simp [intOf]; omega
    · clear hel
      go_wp2
      go_ret
      have h9 := hown
      rw [List.take_of_length_le (by omega)] at h9
      exact ⟨_, rfl, h9, hb⟩
set_option maxRecDepth 100000 in
set_option maxHeartbeats 2000000 in
theorem ref_decided {c : CM} {v : Value} {l : List Rc} (w : World) (hc : Sub c w.cell?) (hv : Rcs c v l) (hm : l.length * 40 ≤ 140737488355328) :
    Calls Try.prog 46 #[v] w fun e w' => ∃ v', e = .returned v' ∧ OwnC Ty.rd c w' w.heap.size 45 v' (decidedR l) ∧ Grow w w' := by
  obtain ⟨a, cap, rfl, h1, h2, -, hel⟩ := hv
  unfold maxLen at h2
  have HM := Lib.hid hm
  clear hm
  go_enter Try.func46, Try.ntmps46
  go_wp2
  go_loopw [3, 8] (fun s3 i wr => ∃ k : Nat, k ≤ l.length ∧ i = .int .i64 k ∧ Grow w wr ∧ OwnC Ty.rd c wr w.heap.size 45 s3 (decidedR (l.take k))) (fun _ i _ => l.length - (intOf i).toNat)
  case atStart => exact ⟨0, by omega, rfl, Grow.refl _, OwnC.nil _ _ _ _ _⟩
  case round =>
    obtain ⟨k, hk', rfl, hb, hown⟩ := hrel
    by_cases hlt : k < l.length
    · obtain ⟨b, o, vp, rfl, c0, c1, c2, i0, i1, hP⟩ := Rcs.at_ hel k hlt
      obtain ⟨ap, cp, rfl, -⟩ := id hP
      replace c0 := hb.sub _ _ (hc _ _ c0)
      replace c1 := hb.sub _ _ (hc _ _ c1)
      replace c2 := hb.sub _ _ (hc _ _ c2)
      have htk : decidedR (l.take (k + 1)) = if l[k].kind = 5 then decidedR (l.take k) ++ [⟨l[k].deed, l[k].parts⟩] else decidedR (l.take k) := by rw [List.take_succ_eq_append_getElem hlt, dec_snoc]
      have HTK := Lib.hid htk
      have hlk : (decidedR (l.take k)).length ≤ l.length := Nat.le_trans (dec_len _) (by simp; omega)
      have HOWN := Lib.hid hown
      have HI := Lib.hid (And.intro i1 hP)
      obtain ⟨av, cv, rfl⟩ := hown.form
      have HLK := Lib.hid hlk
      clear hel hP htk hown i0 i1 hlk
      generalize l[k] = r at *
      generalize decidedR (l.take k) = ds at *
      by_cases h5 : r.kind = 5
      · have b5 : (r.kind == 5) = true := by simp [h5]
        have HK5 := Lib.hid h5
        clear h5
        go_wp2_with (first | (at_builtin; refine wpList_appc (c := c) (base := w.heap.size) (l := ds) (m := [⟨r.deed, r.parts⟩]) ei_rd rfl one_Trd (by decide) rfl (.tmp 15) (.tmp 21) rfl rfl ?own rfl (Src.of_new (T := Ty.rd) (cs := #[.int .i64 r.deed, .slice ap r.parts.length cp]) ⟨_, rfl, HI.out.1, HI.out.2⟩ _ _ ?d1) ?d2 ?d3 ?_))
        case own => exact HOWN.out.grow (((Grow.refl _).alloc _).alloc _)
        case d1 => simp
        case d2 => have := HM.out; have := HLK.out; simp; omega
        case d3 => have := hb.size; simp; omega
        intro a9 c9 w9 ho9 hg9 hb9
        have HG9 : Hid (Grow w w9) := Lib.hid (grow_by (w0 := w) ((hb.alloc _).alloc _) hg9 (fun q hq => (HOWN.out.lt q hq).1))
        have HO9 := Lib.hid ho9
        clear ho9 hg9 hb9
        go_wp2
        go_roundw
        case rel => exact ⟨k + 1, by omega, by go_num, HG9.out, by rw [HTK.out, if_pos HK5.out]; exact HO9.out⟩
        case measure => simp [intOf]; omega
      · have b5 : (r.kind == 5) = false := by simp [h5]
        have HK5 := Lib.hid h5
        clear h5
        go_wp2
        go_roundw
        case rel => exact ⟨k + 1, by omega, by go_num, hb.alloc _, by rw [HTK.out, if_neg HK5.out]; exact HOWN.out.grow ((Grow.refl _).alloc _)⟩
        case measure => simp [intOf]; omega
    · clear hel
      go_wp2
      go_ret
      have h9 := hown
      rw [List.take_of_length_le (by omega)] at h9
      exact ⟨_, rfl, h9, hb⟩
end Go.Proofs.Ytgbhpghgohggcaa
