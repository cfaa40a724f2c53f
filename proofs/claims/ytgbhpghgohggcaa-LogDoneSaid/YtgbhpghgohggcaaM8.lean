/- Walks: log.Head of the program. -/
import Derived.Test.YtgbhpghgohggcaaM7
namespace Go.Proofs.Ytgbhpghgohggcaa
open Go.RowKit
/-- how large a head that a log makes may be -/
structure KOk (h : Hd) (n : Nat) : Prop where
  opn : h.opn.length ≤ n
  boot : I64 h.boot
  next : I64 h.next
theorem kok_step {h : Hd} {n : Nat} (k : KOk h n) (r : Rc) : KOk (headStep h r) (n + 1) := by
  have h1 := k.opn
  unfold headStep
  split
  · exact ⟨by show h.opn.length ≤ _; omega, wrap_ok _, k.next⟩
  · split
    · exact ⟨by simp; omega, k.boot, k.next⟩
    · split
      · exact ⟨Nat.le_trans (List.length_filter_le _ _) (by omega), k.boot, k.next⟩
      · exact ⟨by omega, k.boot, k.next⟩
set_option maxRecDepth 100000 in
set_option maxHeartbeats 4000000 in
theorem wlog_head {v : Value} {l : List Rc} (w : World) (hv : Rcs w.cell? v l) (hm : l.length * 64 ≤ 140737488351232) (hp : ∀ r ∈ l, r.parts.length * 24 ≤ 140737488355328) :
    Calls Try.prog 42 #[v] w fun e w' => ∃ v', e = .returned v' ∧ Of Ty.hd (ov (fun _ => none) w w') v' (headR l) ∧ Grow w w' := by
  have HOWN := Lib.hid (log_own (w.alloc (.cells zhead 57)) (hv.mono ((Grow.refl w).alloc _).sub) (by omega) hp)
  have HM := Lib.hid hm
  have HP := Lib.hid hp
  obtain ⟨al0, cl0, rfl, -⟩ := hv
  have hlm : l.length ≤ 2199023255489 := by omega
  clear hm hp
  go_enter Try.func42, Try.ntmps42
  go_wp2_with fail
  refine HOWN.out.mono ?_
  rintro e w1 ⟨vl, rfl, hown, hb1⟩
  obtain ⟨al, cl, rfl⟩ := hown.form
  have HOW := Lib.hid hown
  have HB1 := Lib.hid hb1
  have z1 : w.heap.size + 1 ≤ w1.heap.size := by have := hb1.size; simpa using this
  clear hown hb1
  go_wp2
  go_loopw [12] (fun i wr => ∃ (k : Nat) (h : Hd) (vo : Value), k ≤ l.length ∧ i = .int .i64 k ∧ (l.take k).foldl headStep ⟨l, 0, 0, []⟩ = h ∧ KBox w w1 wr (.slice al l.length cl) vo l h ∧ KOk h k) (fun i _ => l.length - (intOf i).toNat)
  case atStart =>
    refine ⟨0, ⟨l, 0, 0, []⟩, .slice none 0 0, by omega, rfl, rfl, ?_, ⟨by simp, zero_ok, zero_ok⟩⟩
    have hl := HOW.out.lt
    refine ⟨row_grow (row_new w _) (HB1.out.alloc _), row_new _ _, ?_, OwnC.nil _ _ _ _ _, ((Grow.refl w).alloc _).trans (HB1.out.alloc _), by simp, fun k hk => (hl k hk).2, z1⟩
    have hs0 : (w.alloc (.cells zhead 57)).heap.size = w.heap.size + 1 := by simp
    have h2 := HOW.out
    rw [hs0] at h2
    refine (h2.mono fun a u e => ?_).grow ((Grow.refl _).alloc _)
    unfold fr at e
    split at e
    · cases e
    · rename_i hn
      have hlt := World.block_lt_of_cell? w1 a e
      rw [hs0] at hn
      unfold kmem
      rw [fr_new (by omega)]
      · exact ((Grow.refl w1).alloc _).sub _ _ e
      · simp only [List.mem_cons, List.not_mem_nil, or_false, not_or]
        refine ⟨fun e => hn (.inr (by simp [e])), by simp [Value.ownBlock], fun e => ?_, fun e => ?_⟩
        · have := Option.some.inj e; exact hn (.inl (by omega))
        · have := Option.some.inj e; omega
  case round =>
    obtain ⟨k, h, vo, hk', rfl, hfold, hbox, hok⟩ := hrel
    obtain ⟨ar, cr, rfl⟩ := hbox.opn.form
    have HFD := Lib.hid hfold
    have HBX := Lib.hid hbox
    have HOK0 := Lib.hid hok
    have z3 := hbox.size
    have z4 : w1.heap.size < wr.heap.size := by omega
    by_cases hlt : k < l.length
    · obtain ⟨gl, cs, rfl, ⟨vp, rfl, i0, i1, hP⟩, hA⟩ := hbox.log.get (by decide) k hlt
      have hP' := hP.mono (fr_sub _ _ _)
      obtain ⟨ap, cp, rfl, -⟩ := id hP'
      have c0 := hA 0 _ rfl
      have c1 := hA 1 _ rfl
      have c2 := hA 2 _ rfl
      simp only [Nat.add_zero, Ty.rc] at c0 c1 c2
      have htk : (l.take (k + 1)).foldl headStep ⟨l, 0, 0, []⟩ = headStep h l[k] := by rw [List.take_succ_eq_append_getElem hlt, List.foldl_append, HFD.out]; rfl
      have HTK := Lib.hid htk
      have hpl := HP.out l[k] (List.getElem_mem _)
      have HCL := Lib.hid (fun (W : World) (hW : Grow wr W) => clone_pt W (hP'.mono hW.sub) hpl)
      have HI := Lib.hid (And.intro i0 (And.intro i1 (Pts.ok (c := wr.cell?) hP')))
      have HOK1 := Lib.hid (kok_step hok l[k])
      have HRL : Hid (h.opn.length < 2199023255489) := Lib.hid (by have := hok.opn; omega)
      have HLT : Hid (∀ q, (Value.slice ar h.opn.length cr).ownBlock = some q → q < wr.heap.size) := fun q hq => (hbox.opn.lt q hq).2
      clear hfold hok htk hpl hP hP' hA i0 i1 hbox
      generalize l[k] = r at *
      obtain ⟨s0, s1, s2, s3⟩ := cells4 HBX.out.row
      have sf := row_free HBX.out.row
      by_cases k4 : r.kind = 4
      · have b4 : (r.kind == 4) = true := by simp [k4]
        have b5 : (r.kind == 5) = false := by simp [k4]
        have b6 : (r.kind == 6) = false := by simp [k4]
        have hst : headStep h r = { h with boot := wrap64 (h.boot + 1) } := by unfold headStep; rw [if_pos k4]
        have HFO := Lib.hid (HTK.out.trans hst)
        have HOK := Lib.hid (hst ▸ HOK1.out)
        clear hst k4
        have HX := (KBox.boot HBX.out (Grow.refl wr) (wrap64 (h.boot + 1))).later ((Grow.refl _).alloc (.cells #[.int .i64 r.kind, .int .i64 r.deed, .slice ap r.parts.length cp] 48))
        go_wp2
        go_roundw
        case rel => exact ⟨k + 1, _, _, by omega, by go_num, HFO.out, HX, HOK.out⟩
        case measure => simp [intOf]; omega
      · have b4 : (r.kind == 4) = false := by simp [k4]
        by_cases k5 : r.kind = 5
        · have b5 : (r.kind == 5) = true := by simp [k5]
          have b6 : (r.kind == 6) = false := by simp [k5]
          have hst : headStep h r = { h with opn := h.opn ++ [⟨r.deed, r.parts, true, []⟩] } := by unfold headStep; rw [if_neg k4, if_pos k5]
          have HFO := Lib.hid (HTK.out.trans hst)
          have HOK := Lib.hid (hst ▸ HOK1.out)
          clear hst k4 k5
          go_wp2
          obtain ⟨w2, hWE⟩ : ∃ x : World, x = wr.alloc (.cells #[.int .i64 r.kind, .int .i64 r.deed, .slice ap r.parts.length cp] 48) := ⟨_, rfl⟩
          rw [← hWE]
          have HG2 : Hid (Grow wr w2) := Lib.hid (by rw [hWE]; exact (Grow.refl wr).alloc _)
          have r5 : w2.heap[wr.heap.size]? = some (.cells #[.int .i64 r.kind, .int .i64 r.deed, .slice ap r.parts.length cp] 48 (0, 0)) := by rw [hWE]; exact row_new _ _
          have HR5 := Lib.hid r5
          clear hWE r5 s0 s1 s2 s3
          have HB2 := Lib.hid (HBX.out.later HG2.out)
          obtain ⟨s0, s1, s2, s3⟩ := cells4 HB2.out.row
          obtain ⟨q0, q1, q2⟩ := cells3 HR5.out
          have l3 : w1.heap.size < w2.heap.size := by have := HB2.out.size; omega
          have l5 : wr.heap.size < w2.heap.size := (Array.getElem?_eq_some_iff.1 HR5.out).1
          have n3 : (Value.slice ar h.opn.length cr).ownBlock ≠ some w1.heap.size := fun e => by have := (HB2.out.opn.lt _ e).1; omega
          have n5 : (Value.slice ar h.opn.length cr).ownBlock ≠ some wr.heap.size := fun e => by have := HLT.out _ e; omega
          have HS : Hid (∀ W, w2.grownBy W (Value.slice ar h.opn.length cr).ownBlock → W.cell? ⟨w1.heap.size, 3, none⟩ = some (.slice ar h.opn.length cr) ∧ W.cell? ⟨wr.heap.size, 1, none⟩ = some (.int .i64 r.deed) ∧ W.cell? ⟨wr.heap.size, 2, none⟩ = some (.slice ap r.parts.length cp)) := fun W hW => ⟨by rw [World.cell?_of_block (hW.block w1.heap.size l3 (fun e => n3 e.symm))]; exact s3, by rw [World.cell?_of_block (hW.block wr.heap.size l5 (fun e => n5 e.symm))]; exact q1, by rw [World.cell?_of_block (hW.block wr.heap.size l5 (fun e => n5 e.symm))]; exact q2⟩
          clear s0 s1 s2 s3 q0 q1 q2
          refine but_start (fun w' => w'.cell? ⟨w1.heap.size, 3, none⟩ = some (.slice ar h.opn.length cr) ∧ w'.cell? ⟨wr.heap.size, 1, none⟩ = some (.int .i64 r.deed) ∧ w'.cell? ⟨wr.heap.size, 2, none⟩ = some (.slice ap r.parts.length cp)) 11 (by kernel_rfl) ?_
          obtain ⟨wd, hWd⟩ : ∃ x : World, x = w2.drew := ⟨_, rfl⟩
          rw [← hWd]
          have GD : Grow w2 wd := by rw [hWd]; exact (Grow.refl _).drew
          have zD : w2.heap.size = wd.heap.size := by rw [hWd]; rfl
          have ZD := Lib.hid zD
          clear hWd zD
          refine but_take (i := 0) (v := ?_) 8 rfl (by kernel_rfl) (by kernel_rfl) (by kernel_rfl) (by kernel_rfl) (by kernel_rfl) (fun _ _ _ h => h) (HS.out _ (grownBy_of_grow GD _)) (Or.inl ⟨by rfl, ?_⟩) ?_
          rotate_left
          · (intro w' hSw; (try dsimp only at hSw); obtain ⟨hs0, hs1, hs2⟩ := hSw; go_simp <;> with_reducible rfl)
          try simp only [Act.put, List.getElem_toArray, List.getElem_cons_succ, List.getElem_cons_zero, List.setIfInBounds_toArray, List.set_cons_zero, List.set_cons_succ]
          refine but_take (i := 1) (v := ?_) 8 rfl (by kernel_rfl) (by kernel_rfl) (by kernel_rfl) (by kernel_rfl) (by kernel_rfl) (fun _ _ _ h => h) (HS.out _ (grownBy_of_grow GD _)) (Or.inl ⟨by rfl, ?_⟩) ?_
          rotate_left
          · (intro w' hSw; (try dsimp only at hSw); obtain ⟨hs0, hs1, hs2⟩ := hSw; go_simp <;> with_reducible rfl)
          try simp only [Act.put, List.getElem_toArray, List.getElem_cons_succ, List.getElem_cons_zero, List.setIfInBounds_toArray, List.set_cons_zero, List.set_cons_succ]
          refine but_take (i := 2) (v := ?_) 8 rfl (by kernel_rfl) (by kernel_rfl) (by kernel_rfl) (by kernel_rfl) (by kernel_rfl) (fun _ _ _ h => h) (HS.out _ (grownBy_of_grow GD _)) (Or.inl ⟨by rfl, ?_⟩) ?_
          rotate_left
          · (intro w' hSw; (try dsimp only at hSw); obtain ⟨hs0, hs1, hs2⟩ := hSw; go_simp <;> with_reducible rfl)
          try simp only [Act.put, List.getElem_toArray, List.getElem_cons_succ, List.getElem_cons_zero, List.setIfInBounds_toArray, List.set_cons_zero, List.set_cons_succ]
          refine but_take (i := 3) (v := ?_) 8 rfl (by kernel_rfl) (by kernel_rfl) (by kernel_rfl) (by kernel_rfl) (by kernel_rfl) (fun _ _ _ h => h) (HS.out _ (grownBy_of_grow GD _)) (Or.inl ⟨by rfl, ?_⟩) ?_
          rotate_left
          · (intro w' hSw; (try dsimp only at hSw); obtain ⟨hs0, hs1, hs2⟩ := hSw; go_simp <;> with_reducible rfl)
          try simp only [Act.put, List.getElem_toArray, List.getElem_cons_succ, List.getElem_cons_zero, List.setIfInBounds_toArray, List.set_cons_zero, List.set_cons_succ]
          refine but_take (i := 4) (v := ?_) 8 rfl (by kernel_rfl) (by kernel_rfl) (by kernel_rfl) (by kernel_rfl) (by kernel_rfl) (fun _ _ _ h => h) (HS.out _ (grownBy_of_grow GD _)) (Or.inl ⟨by rfl, ?_⟩) ?_
          rotate_left
          · (intro w' hSw; (try dsimp only at hSw); obtain ⟨hs0, hs1, hs2⟩ := hSw; go_simp <;> with_reducible rfl)
          try simp only [Act.put, List.getElem_toArray, List.getElem_cons_succ, List.getElem_cons_zero, List.setIfInBounds_toArray, List.set_cons_zero, List.set_cons_succ]
          refine but_take (i := 5) (v := ?_) 8 rfl (by kernel_rfl) (by kernel_rfl) (by kernel_rfl) (by kernel_rfl) (by kernel_rfl) (fun _ _ _ h => h) (HS.out _ (grownBy_of_grow GD _)) (Or.inl ⟨by rfl, ?_⟩) ?_
          rotate_left
          · (intro w' hSw; (try dsimp only at hSw); obtain ⟨hs0, hs1, hs2⟩ := hSw; go_simp <;> with_reducible rfl)
          try simp only [Act.put, List.getElem_toArray, List.getElem_cons_succ, List.getElem_cons_zero, List.setIfInBounds_toArray, List.set_cons_zero, List.set_cons_succ]
          refine but_one (i := 6) (by kernel_rfl) rfl ?_
          intro K HK'
          have HK := Lib.hid HK'
          clear HK'
          skip
          try simp only [List.getElem_toArray, List.getElem_cons_succ, List.getElem_cons_zero]
          go_simp
          go_at_call 122
          refine (HCL.out _ (HG2.out.trans GD)).mono ?_
          rintro e w3 ⟨v3, rfl, ho3, hb3⟩
          obtain ⟨a3, c3, rfl⟩ := owns_form ho3
          have HO3 := Lib.hid ho3
          have G3 := GD.trans hb3
          clear ho3 hb3
          refine HK.out _ _ ⟨fun _ => HS.out _ (grownBy_of_grow G3 _), ?_⟩
          clear HK K
          try simp only [Act.put, List.getElem_toArray, List.getElem_cons_succ, List.getElem_cons_zero, List.setIfInBounds_toArray, List.set_cons_zero, List.set_cons_succ]
          refine but_one (i := 7) (by kernel_rfl) rfl ?_
          intro K HK'
          have HK := Lib.hid HK'
          clear HK'
          skip
          try simp only [List.getElem_toArray, List.getElem_cons_succ, List.getElem_cons_zero]
          go_simp
          refine HK.out _ _ ⟨fun _ => HS.out _ (grownBy_of_grow G3 _), ?_⟩
          clear HK K
          try simp only [Act.put, List.getElem_toArray, List.getElem_cons_succ, List.getElem_cons_zero, List.setIfInBounds_toArray, List.set_cons_zero, List.set_cons_succ]
          refine but_one (i := 8) (by kernel_rfl) rfl ?_
          intro K HK'
          have HK := Lib.hid HK'
          clear HK'
          skip
          try simp only [List.getElem_toArray, List.getElem_cons_succ, List.getElem_cons_zero]
          go_simp
          refine HK.out _ _ ⟨fun _ => HS.out _ (grownBy_of_grow (G3.alloc _) _), ?_⟩
          clear HK K
          try simp only [Act.put, List.getElem_toArray, List.getElem_cons_succ, List.getElem_cons_zero, List.setIfInBounds_toArray, List.set_cons_zero, List.set_cons_succ]
          refine but_one (i := 9) (by kernel_rfl) rfl ?_
          intro K HK'
          have HK := Lib.hid HK'
          clear HK'
          refine wanted_go rfl ?_
          try simp only [List.getElem_toArray, List.getElem_cons_succ, List.getElem_cons_zero]
          have bA := HB2.out.later (w' := (w3.alloc (.cells #[.int .i64 r.deed, .slice a3 r.parts.length c3, .bool true, .slice none 0 0] 136))) (G3.alloc _)
          have hR9 : Ty.opn.R (kmem w w1 (w3.alloc (.cells #[.int .i64 r.deed, .slice a3 r.parts.length c3, .bool true, .slice none 0 0] 136)) (.slice (some ⟨gl, 0, none⟩) l.length cl) (Value.slice ar h.opn.length cr)) (#[.int .i64 r.deed, .slice a3 r.parts.length c3, .bool true, .slice none 0 0] : Array Value).toList ⟨r.deed, r.parts, true, []⟩ := by
            refine ⟨_, _, rfl, HI.out.2.1, pts_fr (w1 := wd) ((HO3.out).kept (grownBy_of_grow ((Grow.refl _).alloc _) none) (by cases (Value.slice a3 r.parts.length c3).ownBlock <;> simp)) HI.out.2.2 (by have := HB2.out.grow.size; have := GD.size; omega) fun q hq => ?_, Sl.nil _ _⟩
            have z1 := HB2.out.opn.lt
            have z2 := HB2.out.log.lt
            have z4 := HB2.out.size
            have z5 := HB2.out.w1
            have z6 := GD.size
            simp only [List.mem_cons, List.not_mem_nil, or_false, not_or]
            exact ⟨fun e => by have := (z2 q e.symm).2; omega, fun e => by have := (z1 q e.symm).2; omega, fun e => by have := Option.some.inj e; omega, fun e => by have := Option.some.inj e; omega⟩
          have HR9 := Lib.hid hR9
          have HBA := Lib.hid bA
          clear hR9 bA
          refine wp_appc (c := (kmem w w1 (w3.alloc (.cells #[.int .i64 r.deed, .slice a3 r.parts.length c3, .bool true, .slice none 0 0] 136)) (.slice (some ⟨gl, 0, none⟩) l.length cl) (Value.slice ar h.opn.length cr))) (base := w1.heap.size + 1) (l := h.opn) (m := [⟨r.deed, r.parts, true, []⟩]) ei_opn rfl one_Topn (by decide) (.tmp 27) (.tmp 34) rfl rfl HBA.out.opn rfl (Src.of_new (T := Ty.opn) (cs := #[.int .i64 r.deed, .slice a3 r.parts.length c3, .bool true, .slice none 0 0]) HR9.out _ _ rfl) (by have := HRL.out; simp; omega) HBA.out.size ?_
          intro a9 c9 w9 ho9 hg9 hb9
          have HO9 := Lib.hid ho9
          have HG9 := Lib.hid hg9
          have HB9 := Lib.hid hb9
          have GB9 := Lib.hid (grownBy_trans (grownBy_of_grow (G3.alloc _) _) hg9)
          obtain ⟨t5, -, -⟩ := HS.out _ GB9.out
          have tf : ∀ o, w9.frozen? ⟨w1.heap.size, o, none⟩ = false := row_free (row_by HBA.out.row hg9 (fun e => n3 e.symm))
          have t9 : w1.heap.size < w9.heap.size := World.block_lt_of_cell? w9 _ t5
          clear ho9 hg9 hb9
          refine HK.out _ _ ⟨fun _ => HS.out _ GB9.out, ?_⟩
          clear HK K
          try simp only [Act.put, List.getElem_toArray, List.getElem_cons_succ, List.getElem_cons_zero, List.setIfInBounds_toArray, List.set_cons_zero, List.set_cons_succ]
          refine but_one (i := 10) (by kernel_rfl) rfl ?_
          intro K HK'
          have HK := Lib.hid HK'
          clear HK'
          skip
          try simp only [List.getElem_toArray, List.getElem_cons_succ, List.getElem_cons_zero]
          go_simp
          refine HK.out _ _ ⟨fun _ => HS.out _ GB9.out, ?_⟩
          clear HK K
          try simp only [Act.put, List.getElem_toArray, List.getElem_cons_succ, List.getElem_cons_zero, List.setIfInBounds_toArray, List.set_cons_zero, List.set_cons_succ]
          refine but_one (i := 11) (by kernel_rfl) rfl ?_
          intro K HK'
          have HK := Lib.hid HK'
          clear HK'
          skip
          try simp only [List.getElem_toArray, List.getElem_cons_succ, List.getElem_cons_zero]
          go_simp
          refine HK.out _ _ ⟨fun h => absurd rfl h, ?_⟩
          clear HK K
          try simp only [Act.put, List.getElem_toArray, List.getElem_cons_succ, List.getElem_cons_zero, List.setIfInBounds_toArray, List.set_cons_zero, List.set_cons_succ]
          refine but_done (by kernel_rfl) ?_
          have HX := KBox.opns HB2.out (G3.alloc _) HO9.out HG9.out (HB9.out.imp_right fun ⟨g, e, hge⟩ => ⟨g, e, by simpa using hge⟩)
          go_wp2
          go_roundw
          case rel => exact ⟨k + 1, _, _, by omega, by go_num, HFO.out, HX, HOK.out⟩
          case measure => simp [intOf]; omega
        · have b5 : (r.kind == 5) = false := by simp [k5]
          by_cases k6 : r.kind = 6
          · have b6 : (r.kind == 6) = true := by simp [k6]
            have hst : headStep h r = { h with opn := h.opn.filter fun o => !(o.deed == r.deed) } := by unfold headStep; rw [if_neg k4, if_neg k5, if_pos k6]
            have HFO := Lib.hid (HTK.out.trans hst)
            have HOK := Lib.hid (hst ▸ HOK1.out)
            clear hst k4 k5 k6
            go_wp2_with fail
            have HG2 : Hid (Grow wr (wr.alloc (.cells #[.int .i64 r.kind, .int .i64 r.deed, .slice ap r.parts.length cp] 48))) := Lib.hid ((Grow.refl wr).alloc _)
            have HB2 := Lib.hid (HBX.out.later HG2.out)
            have n3 : (Value.slice ar h.opn.length cr).ownBlock ≠ some w1.heap.size := fun e => by have := (HB2.out.opn.lt _ e).1; omega
            refine (deleteFunc_opn_c (p := fun o => o.deed == r.deed) (c := kmem w w1 (wr.alloc (.cells #[.int .i64 r.kind, .int .i64 r.deed, .slice ap r.parts.length cp] 48)) (.slice (some ⟨gl, 0, none⟩) l.length cl) (Value.slice ar h.opn.length cr)) ?_ HB2.out.opn (lhead_tells _ _ wr.heap.size r.deed _ (by rw [World.cell?_alloc_new]; rfl) (by simp) (fun e => by have := HLT.out _ e; omega))).mono ?_
            · intro a u e
              unfold kmem fr at e
              split at e
              · cases e
              · rename_i hn
                unfold frag
                rw [if_neg (fun e => hn (.inr (by simp [e])))]
                exact e
            rintro e w7 ⟨v7, rfl, ho7, hg7, hb7⟩
            obtain ⟨a7, c7, rfl⟩ := ho7.form
            have t7 := row_by HB2.out.row hg7 (fun e => n3 e.symm)
            have HX := Lib.hid (KBox.opns HB2.out (Grow.refl _) ho7 hg7 (.inl hb7))
            clear s0 s1 s2 s3 sf ho7 hg7 hb7
            obtain ⟨u0, u1, u2, u3⟩ := cells4 t7
            have uf := row_free t7
            have u9 : w1.heap.size < w7.heap.size := (Array.getElem?_eq_some_iff.1 t7).1
            clear t7
            go_wp2
            go_roundw
            case rel => exact ⟨k + 1, _, _, by omega, by go_num, HFO.out, HX.out, HOK.out⟩
            case measure => simp [intOf]; omega
          · have b6 : (r.kind == 6) = false := by simp [k6]
            have hst : headStep h r = h := by unfold headStep; rw [if_neg k4, if_neg k5, if_neg k6]
            have HFO := Lib.hid (HTK.out.trans hst)
            have HOK := Lib.hid (hst ▸ HOK1.out)
            clear hst k4 k5 k6
            go_wp2
            go_roundw
            case rel => exact ⟨k + 1, _, _, by omega, by go_num, HFO.out, HBX.out.later ((Grow.refl wr).alloc _), HOK.out⟩
            case measure => simp [intOf]; omega
    · have HH : Hid (h = headR l) := by show h = _; rw [← HFD.out, List.take_of_length_le (by omega)]; rfl
      obtain ⟨s0, s1, s2, s3⟩ := cells4 hbox.row
      clear hfold hok hbox
      go_wp2_with (first | (refine wpList_store_row rfl (.tmp 2) (.tmp 45) rfl rfl rfl HBX.out.res info_hd rfl rfl ?_))
      intro wf r2 g2
      obtain ⟨p0, p1, p2, p3⟩ := cells4 r2
      have pf := row_free r2
      clear s0 s1 s2 s3
      go_wp2
      refine bodyPost_ret (v := .agg #[.slice al l.length cl, .int .i64 h.boot, .int .i64 h.next, .slice ar h.opn.length cr]) (by simp [results, Try.results42, go_sem, p0, p1, p2, p3, pf]) rfl ?_
      have hlog : h.log = l := by rw [HH.out]; exact (headR_next l).2
      have sub : Sub (kmem w w1 wr (.slice al l.length cl) (.slice ar h.opn.length cr)) (ov (fun _ => none) w wf) := fun a u e => by
        unfold kmem fr at e
        split at e
        · cases e
        · rename_i hn
          have hne : a.block ≠ w.heap.size := fun e => hn (.inr (by simp [e]))
          rw [ov_new (by omega), by_cell g2 (World.block_lt_of_cell? wr a e) hne]
          exact e
      have hb : ∀ k, w.heap.size + 1 ≤ k → k < wr.heap.size → wf.heap[k]? = wr.heap[k]? := fun k h1 h2 => g2.block k h2 (by simp; omega)
      have hw1 := HBX.out.w1
      have e1 := ((HBX.out.log.mono sub).block fun k hk => hb k (HBX.out.log.lt k hk).1 (HBX.out.log.lt k hk).2).slc (by decide) (Sub.refl _) fun a ha => ov_new (by omega)
      have e2 := ((HBX.out.opn.mono sub).block fun k hk => hb k (by have := (HBX.out.opn.lt k hk).1; omega) (HBX.out.opn.lt k hk).2).slc (by decide) (Sub.refl _) fun a ha => ov_new (by omega)
      rw [← HH.out]
      refine ⟨_, rfl, ⟨_, rfl, _, _, rfl, ?_, HOK0.out.boot, HOK0.out.next, e2⟩, HBX.out.grow.grown g2 (fun k hk => by simp at hk; omega)⟩
      rw [hlog]; exact e1
end Go.Proofs.Ytgbhpghgohggcaa
