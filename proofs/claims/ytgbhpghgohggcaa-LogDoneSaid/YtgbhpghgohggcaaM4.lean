/- Walks: log.House of the program. -/
import Derived.Test.YtgbhpghgohggcaaM3
import Derived.Test.YtgbhpghgohggcaaH1
namespace Go.Proofs.Ytgbhpghgohggcaa
open Go.RowKit
theorem cells3 {w : World} {B : Nat} {a b c : Value} {t : TypeId} (h : w.heap[B]? = some (.cells #[a, b, c] t (0, 0))) : w.cell? ⟨B, 0, none⟩ = some a ∧ w.cell? ⟨B, 1, none⟩ = some b ∧ w.cell? ⟨B, 2, none⟩ = some c := by
  refine ⟨?_, ?_, ?_⟩ <;> simp [World.cell?, h]
theorem ints_back {c : CM} {w : World} {base e : Nat} {v : Value} {l : List Int} (h : OwnC Ty.int c w base e v l) : w.ownsRow base e 1 v l.length (l.flatMap intCell) := by
  obtain ⟨css, h1, h2, h3⟩ := h
  have : css.flatten = l.flatMap intCell := by
    rw [List.flatMap_def]
    congr 1
    apply List.ext_getElem?
    intro i
    rw [List.getElem?_map]
    by_cases hi : i < l.length
    · have e1 : css[i]? = some css[i] := List.getElem?_eq_getElem (by omega)
      have e2 : l[i]? = some l[i] := List.getElem?_eq_getElem hi
      rw [e1, e2]
      simp only [Option.map_some, Option.some.injEq]
      exact (h3 i _ _ e1 e2).1
    · rw [List.getElem?_eq_none (by omega), List.getElem?_eq_none (by omega)]; rfl
  rw [← this]; exact h1
theorem hok_step {h : Hs} {n : Nat} (k : HOk h n) {r : Rc} (hd : I64 r.deed) (hr : KeysOk r.parts) : HOk (refStep h r) (n + 1) := by
  have h1 := k.ready
  have h2 := k.done
  cases hf : h.ready.find? (isD r.deed) with
  | none =>
    rw [step_out hf]
    split
    · exact ⟨by simp; omega, by show h.done.length ≤ _; omega, fun x hx => by
        rcases List.mem_append.1 hx with hx | hx
        · exact k.keys x hx
        · rw [List.mem_singleton.1 hx]; exact hr, k.sums, k.ints⟩
    · exact ⟨by omega, by omega, k.keys, k.sums, k.ints⟩
  | some x =>
    rw [step_in hf]
    have hle : (h.ready.eraseP (isD r.deed)).length ≤ h.ready.length := List.eraseP_sublist.length_le
    split
    · exact ⟨by show (h.ready.eraseP _).length ≤ _; omega, by simp; omega, fun y hy => k.keys y (List.eraseP_sublist.subset hy), k.sums.doP _, fun y hy => by
        rcases List.mem_append.1 hy with hy | hy
        · exact k.ints y hy
        · rw [List.mem_singleton.1 hy]; exact hd⟩
    · split
      · exact ⟨by show (h.ready.eraseP _).length ≤ _; omega, by show h.done.length ≤ _; omega, fun y hy => k.keys y (List.eraseP_sublist.subset hy), k.sums, k.ints⟩
      · exact ⟨by omega, by omega, k.keys, k.sums, k.ints⟩
set_option maxRecDepth 100000 in
set_option maxHeartbeats 4000000 in
theorem wlog_house {v : Value} {l : List Rc} (w : World) (hv : Rcs w.cell? v l) (hk : ∀ r ∈ l, KeysOk r.parts) (hm : l.length * 40 ≤ 140737488351232) (hp : ∀ r ∈ l, r.parts.length * 24 ≤ 140737488355328) :
    Calls Try.prog 36 #[v] w fun e w' => ∃ v', e = .returned v' ∧ Of Ty.hs (ov (fun _ => none) w w') v' (houseR l) ∧ Grow w w' := by
  have HOWN := Lib.hid (log_own (w.alloc (.cells zrow 29)) (hv.mono ((Grow.refl w).alloc _).sub) (by omega) hp)
  have HK := Lib.hid hk
  have HM := Lib.hid hm
  have HP := Lib.hid hp
  obtain ⟨al0, cl0, rfl, -⟩ := hv
  have hlm : l.length ≤ 3518437208883 := by omega
  clear hk hm hp
  go_enter Try.func36, Try.ntmps36
  go_wp2_with fail
  refine HOWN.out.mono ?_
  rintro e w1 ⟨vl, rfl, hown, hb1⟩
  obtain ⟨al, cl, rfl⟩ := hown.form
  have HOW := Lib.hid hown
  have HB1 := Lib.hid hb1
  have z1 : w.heap.size + 1 ≤ w1.heap.size := by have := hb1.size; simpa using this
  clear hown hb1
  go_wp2
  go_loopw [13] (fun i wr => ∃ (k : Nat) (h : Hs) (vr vd : Value), k ≤ l.length ∧ i = .int .i64 k ∧ (l.take k).foldl refStep ⟨l, ⟨0, 0, 0, 0⟩, [], []⟩ = h ∧ LBox w w1 wr (.slice al l.length cl) vr vd l h ∧ HOk h k) (fun i _ => l.length - (intOf i).toNat)
  case atStart =>
    refine ⟨0, ⟨l, ⟨0, 0, 0, 0⟩, [], []⟩, .slice none 0 0, .slice none 0 0, by omega, rfl, rfl, ?_, ⟨by simp, by simp, by simp, ⟨zero_ok, zero_ok, zero_ok, zero_ok⟩, by simp⟩⟩
    have hl := HOW.out.lt
    refine ⟨row_grow (row_new w _) (HB1.out.alloc _), row_new _ _, ?_, OwnC.nil _ _ _ _ _, World.ownsRow_nil _ _ _ _, ((Grow.refl w).alloc _).trans (HB1.out.alloc _), by simp, fun k hk => (hl k hk).2, z1, .inl rfl⟩
    have hs0 : (w.alloc (.cells zrow 29)).heap.size = w.heap.size + 1 := by simp
    have h2 := HOW.out
    rw [hs0] at h2
    refine (h2.mono fun a u e => ?_).grow ((Grow.refl _).alloc _)
    unfold fr at e
    split at e
    · cases e
    · rename_i hn
      have hlt := World.block_lt_of_cell? w1 a e
      rw [hs0] at hn
      unfold hmem
      rw [fr_new (by omega)]
      · exact ((Grow.refl w1).alloc _).sub _ _ e
      · simp only [List.mem_cons, List.not_mem_nil, or_false, not_or]
        refine ⟨fun e => hn (.inr (by simp [e])), by simp [Value.ownBlock], by simp [Value.ownBlock], fun e => ?_, fun e => ?_⟩
        · have := Option.some.inj e; exact hn (.inl (by omega))
        · have := Option.some.inj e; omega
  case round =>
    obtain ⟨k, h, vr, vd, hk', rfl, hfold, hbox, hok⟩ := hrel
    obtain ⟨ar, cr, rfl⟩ := hbox.ready.form
    obtain ⟨ad, cd, rfl⟩ := owns_form hbox.done
    have HFD := Lib.hid hfold
    have HBX := Lib.hid hbox
    have HOK0 := Lib.hid hok
    have z3 := hbox.size
    have z4 : w1.heap.size < wr.heap.size := by omega
    by_cases hlt : k < l.length
    · obtain ⟨gl, cs, rfl, ⟨vp, rfl, i0, i1, hP⟩, hA⟩ := hbox.log.get (by decide) k hlt
      have hP' := hP.mono (fr_sub _ _ _)
      obtain ⟨ap, cp, rfl, -⟩ := id hP'
      have c0 := hA 0 _ rfl
      have c1 := hA 1 _ rfl
      have c2 := hA 2 _ rfl
      simp only [Nat.add_zero, Ty.rc] at c0 c1 c2
      have htk : (l.take (k + 1)).foldl refStep ⟨l, ⟨0, 0, 0, 0⟩, [], []⟩ = refStep h l[k] := by rw [List.take_succ_eq_append_getElem hlt, List.foldl_append, HFD.out]; rfl
      have HTK := Lib.hid htk
      have hkk := HK.out l[k] (List.getElem_mem _)
      have hpl := HP.out l[k] (List.getElem_mem _)
      have HCL := Lib.hid (fun (W : World) (hW : Grow wr W) => clone_pt W (hP'.mono hW.sub) hpl)
      have HI := Lib.hid (And.intro i0 (And.intro i1 (Pts.ok (c := wr.cell?) hP')))
      have HRDY := Lib.hid (fun (W : World) (hW : Grow wr W) => log_ready (d := l[k].deed) W ((hbox.ready.sl (by decide) (fr_sub _ _ _)).mono hW.sub))
      have HOK1 := Lib.hid (hok_step hok i1 hkk)
      have HRL : Hid (h.ready.length < 3518437208883) := Lib.hid (by have := hok.ready; have := HM.out; omega)
      have HDL : Hid (h.done.length < 3518437208883) := Lib.hid (by have := hok.done; have := HM.out; omega)
      have HINT := Lib.hid hok.ints
      have HKEYS := Lib.hid hok.keys
      have HLT : Hid (∀ q, (Value.slice ar h.ready.length cr).ownBlock = some q → q < wr.heap.size) := fun q hq => (hbox.ready.lt q hq).2
      have HLD : Hid (∀ q, (Value.slice ad h.done.length cd).ownBlock = some q → q < wr.heap.size) := fun q hq => (hbox.done.lt q hq).2
      have HSZ := Lib.hid z3
      clear hfold hok htk hkk hpl hP hP' hA i0 i1 hbox
      generalize l[k] = r at *
      obtain ⟨s0, s1, s2, s3, s4, s5, s6⟩ := cells7 HBX.out.row
      go_wp2_with fail
      refine (HRDY.out _ ((Grow.refl _).alloc _)).mono ?_
      rintro e w2 ⟨rfl, hb2⟩
      have HG2 : Hid (Grow wr w2) := Lib.hid (((Grow.refl wr).alloc _).trans hb2)
      have HB2 := Lib.hid (HBX.out.later HG2.out)
      have HR5 := Lib.hid (row_grow (row_new wr (.cells #[.int .i64 r.kind, .int .i64 r.deed, .slice ap r.parts.length cp] 48)) hb2)
      clear hb2 s0 s1 s2 s3 s4 s5 s6 c0 c1 c2
      obtain ⟨s0, s1, s2, s3, s4, s5, s6⟩ := cells7 HB2.out.row
      obtain ⟨q0, q1, q2⟩ := cells3 HR5.out
      have s9 : w1.heap.size < w2.heap.size := (Array.getElem?_eq_some_iff.1 HB2.out.row).1
      have q9 : wr.heap.size < w2.heap.size := (Array.getElem?_eq_some_iff.1 HR5.out).1
      cases hix : h.ready.findIdx? (isD r.deed) with
      | none =>
        have hid : idxOf (isD r.deed) h.ready = -1 := by unfold idxOf; rw [hix]
        have hst := step_idx_none hix
        rw [hid]
        clear hix hid
        by_cases k1 : r.kind = 1
        · have b1 : (r.kind == 1) = true := by simp [k1]
          rw [if_pos k1] at hst
          have HFO := Lib.hid (HTK.out.trans hst)
          have HOK := Lib.hid (hst ▸ HOK1.out)
          clear hst k1
          have l3 : w1.heap.size < w2.heap.size := by have := HB2.out.size; omega
          have l5 : wr.heap.size < w2.heap.size := (Array.getElem?_eq_some_iff.1 HR5.out).1
          have n3 : (Value.slice ar h.ready.length cr).ownBlock ≠ some w1.heap.size := fun e => by have := (HB2.out.ready.lt _ e).1; omega
          have n5 : (Value.slice ar h.ready.length cr).ownBlock ≠ some wr.heap.size := fun e => by have := HLT.out _ e; omega
          have HS : Hid (∀ W, w2.grownBy W (Value.slice ar h.ready.length cr).ownBlock → W.cell? ⟨w1.heap.size, 5, none⟩ = some (.slice ar h.ready.length cr) ∧ W.cell? ⟨wr.heap.size, 1, none⟩ = some (.int .i64 r.deed) ∧ W.cell? ⟨wr.heap.size, 2, none⟩ = some (.slice ap r.parts.length cp)) := fun W hW => ⟨by rw [World.cell?_of_block (hW.block w1.heap.size l3 (fun e => n3 e.symm))]; exact s5, by rw [World.cell?_of_block (hW.block wr.heap.size l5 (fun e => n5 e.symm))]; exact q1, by rw [World.cell?_of_block (hW.block wr.heap.size l5 (fun e => n5 e.symm))]; exact q2⟩
          go_wp2
          clear s0 s1 s2 s3 s4 s5 s6 q0 q1 q2
          refine but_start (fun w' => w'.cell? ⟨w1.heap.size, 5, none⟩ = some (.slice ar h.ready.length cr) ∧ w'.cell? ⟨wr.heap.size, 1, none⟩ = some (.int .i64 r.deed) ∧ w'.cell? ⟨wr.heap.size, 2, none⟩ = some (.slice ap r.parts.length cp)) 11 (by kernel_rfl) ?_
          obtain ⟨wd, hWd⟩ : ∃ x : World, x = w2.drew := ⟨_, rfl⟩
          rw [← hWd]
          have GD : Grow w2 wd := by rw [hWd]; exact (Grow.refl _).drew
          have zD : w2.heap.size = wd.heap.size := by rw [hWd]; rfl
          have ZD := Lib.hid zD
          clear hWd zD
          refine but_take (i := 0) (v := ?_) 8 rfl (by kernel_rfl) (by kernel_rfl) (by kernel_rfl) (by kernel_rfl) (by kernel_rfl) (fun _ _ _ h => h) (HS.out _ (grownBy_of_grow GD _)) (Or.inl ⟨by rfl, ?_⟩) ?_
          rotate_left
          · (intro w' hSw; (try dsimp only at hSw); obtain ⟨hs0, hs1, hs2⟩ := hSw; go_simp <;> with_reducible rfl)
          try simp only [Act.put, List.getElem_toArray, List.getElem_cons_succ, List.getElem_cons_zero, List.setIfInBounds_toArray, List.set_cons_zero, List.set_cons_succ]
          refine but_take (i := 1) (v := ?_) 8 rfl (by kernel_rfl) (by kernel_rfl) (by kernel_rfl) (by kernel_rfl) (by kernel_rfl) (fun _ _ _ h => h) (HS.out _ (grownBy_of_grow GD _)) (Or.inl ⟨by rfl, ?_⟩) ?_
          rotate_left
          · (intro w' hSw; (try dsimp only at hSw); obtain ⟨hs0, hs1, hs2⟩ := hSw; go_simp <;> with_reducible rfl)
          try simp only [Act.put, List.getElem_toArray, List.getElem_cons_succ, List.getElem_cons_zero, List.setIfInBounds_toArray, List.set_cons_zero, List.set_cons_succ]
          refine but_take (i := 2) (v := ?_) 8 rfl (by kernel_rfl) (by kernel_rfl) (by kernel_rfl) (by kernel_rfl) (by kernel_rfl) (fun _ _ _ h => h) (HS.out _ (grownBy_of_grow GD _)) (Or.inl ⟨by rfl, ?_⟩) ?_
          rotate_left
          · (intro w' hSw; (try dsimp only at hSw); obtain ⟨hs0, hs1, hs2⟩ := hSw; go_simp <;> with_reducible rfl)
          try simp only [Act.put, List.getElem_toArray, List.getElem_cons_succ, List.getElem_cons_zero, List.setIfInBounds_toArray, List.set_cons_zero, List.set_cons_succ]
          refine but_take (i := 3) (v := ?_) 8 rfl (by kernel_rfl) (by kernel_rfl) (by kernel_rfl) (by kernel_rfl) (by kernel_rfl) (fun _ _ _ h => h) (HS.out _ (grownBy_of_grow GD _)) (Or.inl ⟨by rfl, ?_⟩) ?_
          rotate_left
          · (intro w' hSw; (try dsimp only at hSw); obtain ⟨hs0, hs1, hs2⟩ := hSw; go_simp <;> with_reducible rfl)
          try simp only [Act.put, List.getElem_toArray, List.getElem_cons_succ, List.getElem_cons_zero, List.setIfInBounds_toArray, List.set_cons_zero, List.set_cons_succ]
          refine but_take (i := 4) (v := ?_) 8 rfl (by kernel_rfl) (by kernel_rfl) (by kernel_rfl) (by kernel_rfl) (by kernel_rfl) (fun _ _ _ h => h) (HS.out _ (grownBy_of_grow GD _)) (Or.inl ⟨by rfl, ?_⟩) ?_
          rotate_left
          · (intro w' hSw; (try dsimp only at hSw); obtain ⟨hs0, hs1, hs2⟩ := hSw; go_simp <;> with_reducible rfl)
          try simp only [Act.put, List.getElem_toArray, List.getElem_cons_succ, List.getElem_cons_zero, List.setIfInBounds_toArray, List.set_cons_zero, List.set_cons_succ]
          refine but_take (i := 5) (v := ?_) 8 rfl (by kernel_rfl) (by kernel_rfl) (by kernel_rfl) (by kernel_rfl) (by kernel_rfl) (fun _ _ _ h => h) (HS.out _ (grownBy_of_grow GD _)) (Or.inl ⟨by rfl, ?_⟩) ?_
          rotate_left
          · (intro w' hSw; (try dsimp only at hSw); obtain ⟨hs0, hs1, hs2⟩ := hSw; go_simp <;> with_reducible rfl)
          try simp only [Act.put, List.getElem_toArray, List.getElem_cons_succ, List.getElem_cons_zero, List.setIfInBounds_toArray, List.set_cons_zero, List.set_cons_succ]
          refine but_one (i := 6) (by kernel_rfl) rfl ?_
          intro K HK'
          have HK := Lib.hid HK'
          clear HK'
          skip
          try simp only [List.getElem_toArray, List.getElem_cons_succ, List.getElem_cons_zero]
          go_simp
          go_at_call 122
          refine (HCL.out _ (HG2.out.trans GD)).mono ?_
          rintro e w3 ⟨v3, rfl, ho3, hb3⟩
          obtain ⟨a3, c3, rfl⟩ := owns_form ho3
          have HO3 := Lib.hid ho3
          have G3 := GD.trans hb3
          clear ho3 hb3
          refine HK.out _ _ ⟨fun _ => HS.out _ (grownBy_of_grow G3 _), ?_⟩
          clear HK K
          try simp only [Act.put, List.getElem_toArray, List.getElem_cons_succ, List.getElem_cons_zero, List.setIfInBounds_toArray, List.set_cons_zero, List.set_cons_succ]
          refine but_one (i := 7) (by kernel_rfl) rfl ?_
          intro K HK'
          have HK := Lib.hid HK'
          clear HK'
          skip
          try simp only [List.getElem_toArray, List.getElem_cons_succ, List.getElem_cons_zero]
          go_simp
          refine HK.out _ _ ⟨fun _ => HS.out _ (grownBy_of_grow G3 _), ?_⟩
          clear HK K
          try simp only [Act.put, List.getElem_toArray, List.getElem_cons_succ, List.getElem_cons_zero, List.setIfInBounds_toArray, List.set_cons_zero, List.set_cons_succ]
          refine but_one (i := 8) (by kernel_rfl) rfl ?_
          intro K HK'
          have HK := Lib.hid HK'
          clear HK'
          skip
          try simp only [List.getElem_toArray, List.getElem_cons_succ, List.getElem_cons_zero]
          go_simp
          refine HK.out _ _ ⟨fun _ => HS.out _ (grownBy_of_grow (G3.alloc _) _), ?_⟩
          clear HK K
          try simp only [Act.put, List.getElem_toArray, List.getElem_cons_succ, List.getElem_cons_zero, List.setIfInBounds_toArray, List.set_cons_zero, List.set_cons_succ]
          refine but_one (i := 9) (by kernel_rfl) rfl ?_
          intro K HK'
          have HK := Lib.hid HK'
          clear HK'
          refine wanted_go rfl ?_
          try simp only [List.getElem_toArray, List.getElem_cons_succ, List.getElem_cons_zero]
          have bA := HB2.out.later (w' := (w3.alloc (.cells #[.int .i64 r.deed, .slice a3 r.parts.length c3] 45))) (G3.alloc _)
          have hR9 : Ty.rd.R (hmem w w1 (w3.alloc (.cells #[.int .i64 r.deed, .slice a3 r.parts.length c3] 45)) (.slice (some ⟨gl, 0, none⟩) l.length cl) (.slice ar h.ready.length cr) (.slice ad h.done.length cd)) (#[.int .i64 r.deed, .slice a3 r.parts.length c3] : Array Value).toList ⟨r.deed, r.parts⟩ := by
            refine ⟨_, rfl, HI.out.2.1, pts_fr (w1 := wd) ((HO3.out).kept (grownBy_of_grow ((Grow.refl _).alloc _) none) (by cases (Value.slice a3 r.parts.length c3).ownBlock <;> simp)) HI.out.2.2 (by have := HB2.out.grow.size; have := GD.size; omega) fun q hq => ?_⟩
            have z1 := HB2.out.ready.lt
            have z2 := HB2.out.log.lt
            have z3 := HB2.out.done.lt
            have z4 := HB2.out.size
            have z5 := HB2.out.w1
            have z6 := GD.size
            simp only [List.mem_cons, List.not_mem_nil, or_false, not_or]
            exact ⟨fun e => by have := (z2 q e.symm).2; omega, fun e => by have := (z1 q e.symm).2; omega, fun e => by have := (z3 q e.symm).2; omega, fun e => by have := Option.some.inj e; omega, fun e => by have := Option.some.inj e; omega⟩
          have HR9 := Lib.hid hR9
          have HBA := Lib.hid bA
          clear hR9 bA
          refine wp_appc (c := (hmem w w1 (w3.alloc (.cells #[.int .i64 r.deed, .slice a3 r.parts.length c3] 45)) (.slice (some ⟨gl, 0, none⟩) l.length cl) (.slice ar h.ready.length cr) (.slice ad h.done.length cd))) (base := w1.heap.size + 1) (l := h.ready) (m := [⟨r.deed, r.parts⟩]) ei_rd rfl one_Trd (by decide) (.tmp 31) (.tmp 38) rfl rfl HBA.out.ready rfl (Src.of_new (T := Ty.rd) (cs := #[.int .i64 r.deed, .slice a3 r.parts.length c3]) HR9.out _ _ rfl) (by have := HRL.out; simp; omega) HBA.out.size ?_
          intro a9 c9 w9 ho9 hg9 hb9
          have HO9 := Lib.hid ho9
          have HG9 := Lib.hid hg9
          have HB9 := Lib.hid hb9
          have GB9 := Lib.hid (grownBy_trans (grownBy_of_grow (G3.alloc _) _) hg9)
          obtain ⟨t5, -, -⟩ := HS.out _ GB9.out
          have tf : ∀ o, w9.frozen? ⟨w1.heap.size, o, none⟩ = false := row_free (row_by HBA.out.row hg9 (fun e => n3 e.symm))
          have t9 : w1.heap.size < w9.heap.size := World.block_lt_of_cell? w9 _ t5
          clear ho9 hg9 hb9
          refine HK.out _ _ ⟨fun _ => HS.out _ GB9.out, ?_⟩
          clear HK K
          try simp only [Act.put, List.getElem_toArray, List.getElem_cons_succ, List.getElem_cons_zero, List.setIfInBounds_toArray, List.set_cons_zero, List.set_cons_succ]
          refine but_one (i := 10) (by kernel_rfl) rfl ?_
          intro K HK'
          have HK := Lib.hid HK'
          clear HK'
          skip
          try simp only [List.getElem_toArray, List.getElem_cons_succ, List.getElem_cons_zero]
          go_simp
          refine HK.out _ _ ⟨fun _ => HS.out _ GB9.out, ?_⟩
          clear HK K
          try simp only [Act.put, List.getElem_toArray, List.getElem_cons_succ, List.getElem_cons_zero, List.setIfInBounds_toArray, List.set_cons_zero, List.set_cons_succ]
          refine but_one (i := 11) (by kernel_rfl) rfl ?_
          intro K HK'
          have HK := Lib.hid HK'
          clear HK'
          skip
          try simp only [List.getElem_toArray, List.getElem_cons_succ, List.getElem_cons_zero]
          go_simp
          refine HK.out _ _ ⟨fun h => absurd rfl h, ?_⟩
          clear HK K
          try simp only [Act.put, List.getElem_toArray, List.getElem_cons_succ, List.getElem_cons_zero, List.setIfInBounds_toArray, List.set_cons_zero, List.set_cons_succ]
          refine but_done (by kernel_rfl) ?_
          have HX := LBox.appR HB2.out (G3.alloc _) HO9.out HG9.out (HB9.out.imp_right fun ⟨g, e, hge⟩ => ⟨g, e, by simpa using hge⟩)
          go_wp2
          go_roundw
          case rel => exact ⟨k + 1, _, _, _, by omega, by go_num, HFO.out, HX.1, HOK.out⟩
          case measure => simp [intOf]; omega
        · rw [if_neg k1] at hst
          have HFO := Lib.hid (HTK.out.trans hst)
          have HOK := Lib.hid (hst ▸ HOK1.out)
          have b1 : (r.kind == 1) = false := by simp [k1]
          clear hst
          by_cases k2 : r.kind = 2
          · have b2 : (r.kind == 2) = true := by simp [k2]
            have b3 : (r.kind == 3) = false := by simp [k2]
            clear k1 k2
            go_wp2
            go_roundw
            case rel => exact ⟨k + 1, _, _, _, by omega, by go_num, HFO.out, HB2.out, HOK.out⟩
            case measure => simp [intOf]; omega
          · have b2 : (r.kind == 2) = false := by simp [k2]
            by_cases k3 : r.kind = 3
            · have b3 : (r.kind == 3) = true := by simp [k3]
              clear k1 k2 k3
              go_wp2
              go_roundw
              case rel => exact ⟨k + 1, _, _, _, by omega, by go_num, HFO.out, HB2.out, HOK.out⟩
              case measure => simp [intOf]; omega
            · have b3 : (r.kind == 3) = false := by simp [k3]
              clear k1 k2 k3
              go_wp2
              go_roundw
              case rel => exact ⟨k + 1, _, _, _, by omega, by go_num, HFO.out, HB2.out, HOK.out⟩
              case measure => simp [intOf]; omega
      | some i =>
        have hid : idxOf (isD r.deed) h.ready = (i : Int) := by unfold idxOf; rw [hix]
        obtain ⟨hi, hst⟩ := step_idx_some hix
        rw [hid]
        clear hix hid
        obtain ⟨gr, csx, rfl, ⟨vx, rfl, -, hX⟩, hAx⟩ := HB2.out.ready.get (by decide) i hi
        have hX' := hX.mono (fr_sub _ _ _)
        obtain ⟨ax, cx, rfl, -⟩ := id hX'
        have x1 := hAx 1 _ rfl
        simp only [Ty.rd] at x1
        have HDO := Lib.hid (fun (W : World) (hW : Grow w2 W) => part_do (s := h.sums) W (hX'.mono hW.sub) (HKEYS.out _ (List.getElem_mem hi)))
        have HII := Lib.hid hi
        have hib : i < 3518437208883 := by have := HRL.out; omega
        have gr9 : gr < w2.heap.size := World.block_lt_of_cell? w2 _ x1
        clear hX hX' hAx
        by_cases k2 : r.kind = 2
        · have b1 : (r.kind == 1) = false := by simp [k2]
          have b2 : (r.kind == 2) = true := by simp [k2]
          rw [if_pos k2] at hst
          have HFO := Lib.hid (HTK.out.trans hst)
          have HOK := Lib.hid (hst ▸ HOK1.out)
          clear hst k2
          generalize h.ready[i] = x at *
          have HS : Hid (∀ W, Grow w2 W → W.cell? ⟨w1.heap.size, 1, none⟩ = some (.int .i64 h.sums.a) ∧ W.cell? ⟨w1.heap.size, 2, none⟩ = some (.int .i64 h.sums.b) ∧ W.cell? ⟨w1.heap.size, 3, none⟩ = some (.int .i64 h.sums.c) ∧ W.cell? ⟨w1.heap.size, 4, none⟩ = some (.int .i64 h.sums.d) ∧ W.cell? ⟨w1.heap.size, 5, none⟩ = some (.slice (some ⟨gr, 0, none⟩) h.ready.length cr) ∧ W.cell? ⟨gr, i * 2 + 1, none⟩ = some (.slice ax x.parts.length cx)) := fun W hW => ⟨hW.sub _ _ s1, hW.sub _ _ s2, hW.sub _ _ s3, hW.sub _ _ s4, hW.sub _ _ s5, hW.sub _ _ x1⟩
          go_wp2
          clear s0 s1 s2 s3 s4 s5 s6 q0 q1 q2
          refine but_start (fun w' => w'.cell? ⟨w1.heap.size, 1, none⟩ = some (.int .i64 h.sums.a) ∧ w'.cell? ⟨w1.heap.size, 2, none⟩ = some (.int .i64 h.sums.b) ∧ w'.cell? ⟨w1.heap.size, 3, none⟩ = some (.int .i64 h.sums.c) ∧ w'.cell? ⟨w1.heap.size, 4, none⟩ = some (.int .i64 h.sums.d) ∧ w'.cell? ⟨w1.heap.size, 5, none⟩ = some (.slice (some ⟨gr, 0, none⟩) h.ready.length cr) ∧ w'.cell? ⟨gr, i * 2 + 1, none⟩ = some (.slice ax x.parts.length cx)) 10 (by kernel_rfl) ?_
          obtain ⟨wd, hWd⟩ : ∃ x : World, x = w2.drew := ⟨_, rfl⟩
          rw [← hWd]
          have GD : Grow w2 wd := by rw [hWd]; exact (Grow.refl _).drew
          have zD : w2.heap.size = wd.heap.size := by rw [hWd]; rfl
          have ZD := Lib.hid zD
          clear hWd zD
          refine but_take (i := 0) (v := ?_) 8 rfl (by kernel_rfl) (by kernel_rfl) (by kernel_rfl) (by kernel_rfl) (by kernel_rfl) (fun _ _ _ h => h) (HS.out _ GD) (Or.inl ⟨by rfl, ?_⟩) ?_
          rotate_left
          · (intro w' hSw; (try dsimp only at hSw); obtain ⟨hs0, hs1, hs2, hs3, hs4, hs5⟩ := hSw; go_simp <;> with_reducible rfl)
          try simp only [Act.put, List.getElem_toArray, List.getElem_cons_succ, List.getElem_cons_zero, List.setIfInBounds_toArray, List.set_cons_zero, List.set_cons_succ]
          refine but_take (i := 1) (v := ?_) 8 rfl (by kernel_rfl) (by kernel_rfl) (by kernel_rfl) (by kernel_rfl) (by kernel_rfl) (fun _ _ _ h => h) (HS.out _ GD) (Or.inl ⟨by rfl, ?_⟩) ?_
          rotate_left
          · (intro w' hSw; (try dsimp only at hSw); obtain ⟨hs0, hs1, hs2, hs3, hs4, hs5⟩ := hSw; go_simp <;> with_reducible rfl)
          try simp only [Act.put, List.getElem_toArray, List.getElem_cons_succ, List.getElem_cons_zero, List.setIfInBounds_toArray, List.set_cons_zero, List.set_cons_succ]
          refine but_take (i := 2) (v := ?_) 8 rfl (by kernel_rfl) (by kernel_rfl) (by kernel_rfl) (by kernel_rfl) (by kernel_rfl) (fun _ _ _ h => h) (HS.out _ GD) (Or.inl ⟨by rfl, ?_⟩) ?_
          rotate_left
          · (intro w' hSw; (try dsimp only at hSw); obtain ⟨hs0, hs1, hs2, hs3, hs4, hs5⟩ := hSw; go_simp <;> with_reducible rfl)
          try simp only [Act.put, List.getElem_toArray, List.getElem_cons_succ, List.getElem_cons_zero, List.setIfInBounds_toArray, List.set_cons_zero, List.set_cons_succ]
          refine but_take (i := 3) (v := ?_) 8 rfl (by kernel_rfl) (by kernel_rfl) (by kernel_rfl) (by kernel_rfl) (by kernel_rfl) (fun _ _ _ h => h) (HS.out _ GD) (Or.inl ⟨by rfl, ?_⟩) ?_
          rotate_left
          · (intro w' hSw; (try dsimp only at hSw); obtain ⟨hs0, hs1, hs2, hs3, hs4, hs5⟩ := hSw; go_simp <;> with_reducible rfl)
          try simp only [Act.put, List.getElem_toArray, List.getElem_cons_succ, List.getElem_cons_zero, List.setIfInBounds_toArray, List.set_cons_zero, List.set_cons_succ]
          refine but_take (i := 4) (v := ?_) 8 rfl (by kernel_rfl) (by kernel_rfl) (by kernel_rfl) (by kernel_rfl) (by kernel_rfl) (fun _ _ _ h => h) (HS.out _ GD) (Or.inl ⟨by rfl, ?_⟩) ?_
          rotate_left
          · (intro w' hSw; (try dsimp only at hSw); obtain ⟨hs0, hs1, hs2, hs3, hs4, hs5⟩ := hSw; go_simp <;> with_reducible rfl)
          try simp only [Act.put, List.getElem_toArray, List.getElem_cons_succ, List.getElem_cons_zero, List.setIfInBounds_toArray, List.set_cons_zero, List.set_cons_succ]
          refine but_take (i := 5) (v := ?_) 8 rfl (by kernel_rfl) (by kernel_rfl) (by kernel_rfl) (by kernel_rfl) (by kernel_rfl) (fun _ _ _ h => h) (HS.out _ GD) (Or.inl ⟨by rfl, ?_⟩) ?_
          rotate_left
          · (intro w' hSw; (try dsimp only at hSw); obtain ⟨hs0, hs1, hs2, hs3, hs4, hs5⟩ := hSw; go_simp <;> with_reducible rfl)
          try simp only [Act.put, List.getElem_toArray, List.getElem_cons_succ, List.getElem_cons_zero, List.setIfInBounds_toArray, List.set_cons_zero, List.set_cons_succ]
          refine but_take (i := 6) (v := ?_) 8 rfl (by kernel_rfl) (by kernel_rfl) (by kernel_rfl) (by kernel_rfl) (by kernel_rfl) (fun _ _ _ h => h) (HS.out _ GD) (Or.inl ⟨by rfl, ?_⟩) ?_
          rotate_left
          · (intro w' hSw; (try dsimp only at hSw); obtain ⟨hs0, hs1, hs2, hs3, hs4, hs5⟩ := hSw; go_simp <;> with_reducible rfl)
          try simp only [Act.put, List.getElem_toArray, List.getElem_cons_succ, List.getElem_cons_zero, List.setIfInBounds_toArray, List.set_cons_zero, List.set_cons_succ]
          refine but_take (i := 7) (v := ?_) 8 rfl (by kernel_rfl) (by kernel_rfl) (by kernel_rfl) (by kernel_rfl) (by kernel_rfl) (fun _ _ _ h => h) (HS.out _ GD) (Or.inl ⟨by rfl, ?_⟩) ?_
          rotate_left
          · (intro w' hSw; (try dsimp only at hSw); obtain ⟨hs0, hs1, hs2, hs3, hs4, hs5⟩ := hSw; go_simp <;> with_reducible rfl)
          try simp only [Act.put, List.getElem_toArray, List.getElem_cons_succ, List.getElem_cons_zero, List.setIfInBounds_toArray, List.set_cons_zero, List.set_cons_succ]
          refine but_one (i := 8) (by kernel_rfl) rfl ?_
          intro K HK'
          have HK := Lib.hid HK'
          clear HK'
          skip
          try simp only [List.getElem_toArray, List.getElem_cons_succ, List.getElem_cons_zero]
          go_simp
          go_at_call 88
          refine (HDO.out _ GD).mono ?_
          rintro e w3 ⟨rfl, hb3⟩
          have G3 := GD.trans hb3
          clear hb3
          obtain ⟨u1, u2, u3, u4, -, -⟩ := HS.out _ G3
          have uf : ∀ o, w3.frozen? ⟨w1.heap.size, o, none⟩ = false := row_free (row_grow HB2.out.row G3)
          have u9 : w1.heap.size < w3.heap.size := World.block_lt_of_cell? w3 _ u1
          refine HK.out _ _ ⟨fun _ => HS.out _ G3, ?_⟩
          clear HK K
          try simp only [Act.put, List.getElem_toArray, List.getElem_cons_succ, List.getElem_cons_zero, List.setIfInBounds_toArray, List.set_cons_zero, List.set_cons_succ]
          refine but_one (i := 9) (by kernel_rfl) rfl ?_
          intro K HK'
          have HK := Lib.hid HK'
          clear HK'
          skip
          try simp only [List.getElem_toArray, List.getElem_cons_succ, List.getElem_cons_zero]
          go_simp
          refine HK.out _ _ ⟨fun _ => HS.out _ G3, ?_⟩
          clear HK K
          try simp only [Act.put, List.getElem_toArray, List.getElem_cons_succ, List.getElem_cons_zero, List.setIfInBounds_toArray, List.set_cons_zero, List.set_cons_succ]
          refine but_one (i := 10) (by kernel_rfl) rfl ?_
          intro K HK'
          have HK := Lib.hid HK'
          clear HK'
          skip
          try simp only [List.getElem_toArray, List.getElem_cons_succ, List.getElem_cons_zero]
          go_simp
          refine HK.out _ _ ⟨fun h => absurd rfl h, ?_⟩
          clear HK K
          try simp only [Act.put, List.getElem_toArray, List.getElem_cons_succ, List.getElem_cons_zero, List.setIfInBounds_toArray, List.set_cons_zero, List.set_cons_succ]
          refine but_done (by kernel_rfl) ?_
          obtain ⟨bs, cs4⟩ := LBox.sum (s := doP h.sums x.parts) HB2.out G3
          have r5 : ((((w3.setCell ⟨w1.heap.size, 1, none⟩ (.int .i64 (doP h.sums x.parts).a)).setCell ⟨w1.heap.size, 2, none⟩ (.int .i64 (doP h.sums x.parts).b)).setCell ⟨w1.heap.size, 3, none⟩ (.int .i64 (doP h.sums x.parts).c)).setCell ⟨w1.heap.size, 4, none⟩ (.int .i64 (doP h.sums x.parts).d)).heap[wr.heap.size]? = some (.cells #[.int .i64 r.kind, .int .i64 r.deed, .slice ap r.parts.length cp] 48 (0, 0)) := by rw [cs4.block _ (Array.getElem?_eq_some_iff.1 HR5.out).1 (by have := HB2.out.size; have := HSZ.out; omega) (fun e => by have := HLT.out _ e; omega) (fun e => by have := HLD.out _ e; omega)]; exact HR5.out
          clear u1 u2 u3 u4 uf u9
          generalize ((((w3.setCell ⟨w1.heap.size, 1, none⟩ (.int .i64 (doP h.sums x.parts).a)).setCell ⟨w1.heap.size, 2, none⟩ (.int .i64 (doP h.sums x.parts).b)).setCell ⟨w1.heap.size, 3, none⟩ (.int .i64 (doP h.sums x.parts).c)).setCell ⟨w1.heap.size, 4, none⟩ (.int .i64 (doP h.sums x.parts).d)) = w4 at *
          have HB4 := Lib.hid bs
          have HR54 := Lib.hid r5
          clear bs cs4 r5
          obtain ⟨s0, s1, s2, s3, s4, s5, s6⟩ := cells7 HB4.out.row
          have sf := row_free HB4.out.row
          have s9 : w1.heap.size < w4.heap.size := (Array.getElem?_eq_some_iff.1 HB4.out.row).1
          obtain ⟨q0, q1, q2⟩ := cells3 HR54.out
          have q9 : wr.heap.size < w4.heap.size := (Array.getElem?_eq_some_iff.1 HR54.out).1
          dsimp only at s0 s1 s2 s3 s4 s5 s6
          go_wp2_with (first | (at_builtin; refine wpList_appc (c := fun _ => none) (base := w1.heap.size + 1) (l := h.done) (m := [r.deed]) ei_int rfl one_Tint (by decide) rfl (.tmp 60) (.tmp 63) rfl rfl ?own rfl (Src.of_new (T := Ty.int) (cs := #[.int .i64 r.deed]) ⟨rfl, HI.out.2.1⟩ _ _ ?d1) ?d2 ?d3 ?_))
          case own => exact (OwnC.ints HB4.out.done HINT.out).grow ((Grow.refl _).alloc _)
          case d1 => rfl
          case d2 => have := HDL.out; simp; omega
          case d3 => have := HB4.out.size; simp; omega
          intro a5 c5 w5 ho5 hg5 hb5
          obtain ⟨bd, cd5⟩ := LBox.appD (x := r.deed) HB4.out ((Grow.refl w4).alloc (.cells #[.int .i64 r.deed] 3)) (ints_back ho5) hg5 (hb5.imp_right fun ⟨g, e, hge⟩ => ⟨g, e, by simpa using hge⟩)
          have HBD := Lib.hid bd
          have HCD := Lib.hid cd5
          have t6 : w5.heap[w1.heap.size]? = _ := row_by (row_grow HB4.out.row ((Grow.refl w4).alloc (.cells #[.int .i64 r.deed] 3))) hg5 (fun e => by have := (HB4.out.done.lt _ e.symm).1; omega)
          clear bd cd5 s0 s1 s2 s3 s4 s5 s6 sf q0 q1 q2
          obtain ⟨s0, s1, s2, s3, s4, s5, s6⟩ := cells7 t6
          have sf := row_free t6
          have s8 : w1.heap.size < w5.heap.size := (Array.getElem?_eq_some_iff.1 t6).1
          dsimp only at s0 s1 s2 s3 s4 s5 s6
          clear t6 ho5 hg5 hb5
          go_wp2_with fail
          generalize w5.setCell ⟨w1.heap.size, 6, none⟩ (.slice a5 (h.done.length + 1) c5) = w6 at *
          obtain ⟨css, k1, k2, k3⟩ := HBD.out.ready
          have h1c : ∀ u ∈ css.flatten, u.oneCell' = true := by
            intro u hu
            obtain ⟨cs, hcs, huc⟩ := List.mem_flatten.1 hu
            obtain ⟨j, hj, rfl⟩ := List.mem_iff_getElem.1 hcs
            exact one_Trd _ _ _ (k3 j css[j] _ (by simp) (List.getElem?_eq_getElem (by omega))) u huc
          have HK1 := Lib.hid k1
          have HK2 := Lib.hid k2
          have HK3 := Lib.hid k3
          have H1C := Lib.hid h1c
          clear k1 k2 k3 h1c
          refine (delete_rd (i := i) HK1.out HII.out H1C.out).mono ?_
          rintro e w7 ⟨rfl, ho7, hg7⟩
          have t7 := row_by HBD.out.row hg7 (fun e => by have := (HBD.out.ready.lt gr rfl).1; have := Option.some.inj e; omega)
          obtain ⟨u0, u1, u2, u3, u4, u5, u6⟩ := cells7 t7
          have uf := row_free t7
          have u9 : w1.heap.size < w7.heap.size := (Array.getElem?_eq_some_iff.1 t7).1
          have HX := Lib.hid (LBox.delR (h := { h with sums := doP h.sums x.parts, done := h.done ++ [r.deed] }) HBD.out (Grow.refl _) HII.out HK2.out HK3.out ho7 hg7)
          clear t7 ho7 hg7
          go_wp2
          go_roundw
          case rel => exact ⟨k + 1, _, _, _, by omega, by go_num, HFO.out, HX.out.1, HOK.out⟩
          case measure => simp [intOf]; omega
        · have b2 : (r.kind == 2) = false := by simp [k2]
          rw [if_neg k2] at hst
          by_cases k3 : r.kind = 3
          · have b1 : (r.kind == 1) = false := by simp [k3]
            have b3 : (r.kind == 3) = true := by simp [k3]
            rw [if_pos k3] at hst
            have HFO := Lib.hid (HTK.out.trans hst)
            have HOK := Lib.hid (hst ▸ HOK1.out)
            clear hst k2 k3
            go_wp2_with fail
            obtain ⟨css, k1, k2, k3⟩ := HB2.out.ready
            have h1c : ∀ u ∈ css.flatten, u.oneCell' = true := by
              intro u hu
              obtain ⟨cs, hcs, huc⟩ := List.mem_flatten.1 hu
              obtain ⟨j, hj, rfl⟩ := List.mem_iff_getElem.1 hcs
              exact one_Trd _ _ _ (k3 j css[j] _ (by simp) (List.getElem?_eq_getElem (by omega))) u huc
            have HK1 := Lib.hid k1
            have HK2 := Lib.hid k2
            have HK3 := Lib.hid k3
            have H1C := Lib.hid h1c
            clear k1 k2 k3 h1c
            refine (delete_rd (i := i) HK1.out HII.out H1C.out).mono ?_
            rintro e w7 ⟨rfl, ho7, hg7⟩
            have t7 := row_by HB2.out.row hg7 (fun e => by have := (HB2.out.ready.lt gr rfl).1; have := Option.some.inj e; omega)
            obtain ⟨u0, u1, u2, u3, u4, u5, u6⟩ := cells7 t7
            have uf := row_free t7
            have u9 : w1.heap.size < w7.heap.size := (Array.getElem?_eq_some_iff.1 t7).1
            have HX := Lib.hid (LBox.delR HB2.out (Grow.refl _) HII.out HK2.out HK3.out ho7 hg7)
            clear t7 ho7 hg7
            go_wp2
            go_roundw
            case rel => exact ⟨k + 1, _, _, _, by omega, by go_num, HFO.out, HX.out.1, HOK.out⟩
            case measure => simp [intOf]; omega
          · have b3 : (r.kind == 3) = false := by simp [k3]
            rw [if_neg k3] at hst
            have HFO := Lib.hid (HTK.out.trans hst)
            have HOK := Lib.hid (hst ▸ HOK1.out)
            by_cases k1 : r.kind = 1
            · have b1 : (r.kind == 1) = true := by simp [k1]
              clear hst k1 k2 k3
              go_wp2
              go_roundw
              case rel => exact ⟨k + 1, _, _, _, by omega, by go_num, HFO.out, HB2.out, HOK.out⟩
              case measure => simp [intOf]; omega
            · have b1 : (r.kind == 1) = false := by simp [k1]
              clear hst k1 k2 k3
              go_wp2
              go_roundw
              case rel => exact ⟨k + 1, _, _, _, by omega, by go_num, HFO.out, HB2.out, HOK.out⟩
              case measure => simp [intOf]; omega
    · have HH : Hid (h = houseR l) := by show h = _; rw [← HFD.out, List.take_of_length_le (by omega)]; rfl
      obtain ⟨s0, s1, s2, s3, s4, s5, s6⟩ := cells7 hbox.row
      clear hfold hok hbox
      go_wp2_with (first | (refine wpList_store_row rfl (.tmp 2) (.tmp 89) rfl rfl rfl HBX.out.res info_hs rfl rfl ?_))
      intro wf r2 g2
      obtain ⟨p0, p1, p2, p3, p4, p5, p6⟩ := cells7 r2
      have pf := row_free r2
      clear s0 s1 s2 s3 s4 s5 s6
      go_wp2
      refine bodyPost_ret (v := .agg #[.slice al l.length cl, .int .i64 h.sums.a, .int .i64 h.sums.b, .int .i64 h.sums.c, .int .i64 h.sums.d, .slice ar h.ready.length cr, .slice ad h.done.length cd]) (by simp [results, Try.results36, go_sem, p0, p1, p2, p3, p4, p5, p6, pf]) rfl ?_
      have hlog : h.log = l := by rw [HH.out]; exact log_house l
      have sub : Sub (hmem w w1 wr (.slice al l.length cl) (.slice ar h.ready.length cr) (.slice ad h.done.length cd)) (ov (fun _ => none) w wf) := fun a u e => by
        unfold hmem fr at e
        split at e
        · cases e
        · rename_i hn
          have hne : a.block ≠ w.heap.size := fun e => hn (.inr (by simp [e]))
          rw [ov_new (by omega), by_cell g2 (World.block_lt_of_cell? wr a e) hne]
          exact e
      have hb : ∀ k, w.heap.size + 1 ≤ k → k < wr.heap.size → wf.heap[k]? = wr.heap[k]? := fun k h1 h2 => g2.block k h2 (by simp; omega)
      have hw1 := HBX.out.w1
      have e1 := ((HBX.out.log.mono sub).block fun k hk => hb k (HBX.out.log.lt k hk).1 (HBX.out.log.lt k hk).2).slc (by decide) (Sub.refl _) fun a ha => ov_new (by omega)
      have e2 := ((HBX.out.ready.mono sub).block fun k hk => hb k (by have := (HBX.out.ready.lt k hk).1; omega) (HBX.out.ready.lt k hk).2).slc (by decide) (Sub.refl _) fun a ha => ov_new (by omega)
      have e3 := (OwnC.ints (c := ov (fun _ => none) w wf) (owns_block HBX.out.done fun k hk => hb k (by have := (HBX.out.done.lt k hk).1; omega) (HBX.out.done.lt k hk).2) HOK0.out.ints).slc (by decide) (Sub.refl _) fun a ha => ov_new (by omega)
      have hs := HOK0.out.sums
      rw [← HH.out]
      refine ⟨_, rfl, ⟨_, rfl, _, _, _, rfl, ?_, hs.1, hs.2.1, hs.2.2.1, hs.2.2.2, e2, e3⟩, HBX.out.grow.grown g2 (fun k hk => by simp at hk; omega)⟩
      rw [hlog]; exact e1
end Go.Proofs.Ytgbhpghgohggcaa
