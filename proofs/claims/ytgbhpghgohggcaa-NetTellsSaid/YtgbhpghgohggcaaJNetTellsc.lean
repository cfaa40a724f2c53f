/- The parts that NetTells is proved of, joined: M4, R3, B2, Y6, Y3, Y5, Y7, Dfn, R1, R4, Y4, Win, Y8, E2, R5. No condition beside those that each theorem names. -/
import Derived.Sort.OwnSortedInts
import Derived.Test.YtgbhpghgohggcaaShelf
import Derived.IntWalk
import Derived.Deep.Cut
import Derived.Deep.DeepCutAuto
import Derived.Laws.CopyRow
import Derived.Test.YtgbhpghgohggcaaJNetTellsb
/- Walks: log.House of the program. -/
namespace Go.Proofs.Ytgbhpghgohggcaa
open Go.RowKit
theorem cells3 {w : World} {B : Nat} {a b c : Value} {t : TypeId} (h : w.heap[B]? = some (.cells #[a, b, c] t (0, 0))) : w.cell? ⟨B, 0, none⟩ = some a ∧ w.cell? ⟨B, 1, none⟩ = some b ∧ w.cell? ⟨B, 2, none⟩ = some c := by
  refine ⟨?_, ?_, ?_⟩ <;> simp [World.cell?, h]
theorem ints_back {c : CM} {w : World} {base e : Nat} {v : Value} {l : List Int} (h : OwnC Ty.int c w base e v l) : w.ownsRow base e 1 v l.length (l.flatMap intCell) := by
  obtain ⟨css, h1, h2, h3⟩ := h
  have : css.flatten = l.flatMap intCell := by
    rw [List.flatMap_def]
    congr 1
    apply List.ext_getElem?
    intro i
    rw [List.getElem?_map]
    by_cases hi : i < l.length
    · have e1 : css[i]? = some css[i] := List.getElem?_eq_getElem (by omega)
      have e2 : l[i]? = some l[i] := List.getElem?_eq_getElem hi
      rw [e1, e2]
      simp only [Option.map_some, Option.some.injEq]
      exact (h3 i _ _ e1 e2).1
    · rw [List.getElem?_eq_none (by omega), List.getElem?_eq_none (by omega)]; rfl
  rw [← this]; exact h1
theorem hok_step {h : Hs} {n : Nat} (k : HOk h n) {r : Rc} (hd : I64 r.deed) (hr : KeysOk r.parts) : HOk (refStep h r) (n + 1) := by
  have h1 := k.ready
  have h2 := k.done
  cases hf : h.ready.find? (isD r.deed) with
  | none =>
    rw [step_out hf]
    split
    · exact ⟨by simp; omega, by show h.done.length ≤ _; omega, fun x hx => by
        rcases List.mem_append.1 hx with hx | hx
        · exact k.keys x hx
        · rw [List.mem_singleton.1 hx]; exact hr, k.sums, k.ints⟩
    · exact ⟨by omega, by omega, k.keys, k.sums, k.ints⟩
  | some x =>
    rw [step_in hf]
    have hle : (h.ready.eraseP (isD r.deed)).length ≤ h.ready.length := List.eraseP_sublist.length_le
    split
    · exact ⟨by show (h.ready.eraseP _).length ≤ _; omega, by simp; omega, fun y hy => k.keys y (List.eraseP_sublist.subset hy), k.sums.doP _, fun y hy => by
        rcases List.mem_append.1 hy with hy | hy
        · exact k.ints y hy
        · rw [List.mem_singleton.1 hy]; exact hd⟩
    · split
      · exact ⟨by show (h.ready.eraseP _).length ≤ _; omega, by show h.done.length ≤ _; omega, fun y hy => k.keys y (List.eraseP_sublist.subset hy), k.sums, k.ints⟩
      · exact ⟨by omega, by omega, k.keys, k.sums, k.ints⟩
set_option maxRecDepth 100000 in
set_option maxHeartbeats 4000000 in
theorem wlog_house {v : Value} {l : List Rc} (w : World) (hv : Rcs w.cell? v l) (hk : ∀ r ∈ l, KeysOk r.parts) (hm : l.length * 40 ≤ 140737488351232) (hp : ∀ r ∈ l, r.parts.length * 24 ≤ 140737488355328) :
    Calls Try.prog 36 #[v] w fun e w' => ∃ v', e = .returned v' ∧ Of Ty.hs (ov (fun _ => none) w w') v' (houseR l) ∧ Grow w w' := by
  have HOWN := Lib.hid (log_own (w.alloc (.cells zrow 29)) (hv.mono ((Grow.refl w).alloc _).sub) (by omega) hp)
  have HK := Lib.hid hk
  have HM := Lib.hid hm
  have HP := Lib.hid hp
  obtain ⟨al0, cl0, rfl, -⟩ := hv
  have hlm : l.length ≤ 3518437208883 := by omega
  clear hk hm hp
  go_enter Try.func36, Try.ntmps36
  go_wp2_with fail
  refine HOWN.out.mono ?_
  rintro e w1 ⟨vl, rfl, hown, hb1⟩
  obtain ⟨al, cl, rfl⟩ := hown.form
  have HOW := Lib.hid hown
  have HB1 := Lib.hid hb1
  have z1 : w.heap.size + 1 ≤ w1.heap.size := by have := hb1.size; simpa using this
  clear hown hb1
  go_wp2
  go_loopw [13] (fun i wr => ∃ (k : Nat) (h : Hs) (vr vd : Value), k ≤ l.length ∧ i = .int .i64 k ∧ (l.take k).foldl refStep ⟨l, ⟨0, 0, 0, 0⟩, [], []⟩ = h ∧ LBox w w1 wr (.slice al l.length cl) vr vd l h ∧ HOk h k) (fun i _ => l.length - (intOf i).toNat)
  case atStart =>
    refine ⟨0, ⟨l, ⟨0, 0, 0, 0⟩, [], []⟩, .slice none 0 0, .slice none 0 0, by omega, rfl, rfl, ?_, ⟨by simp, by simp, by simp, ⟨zero_ok, zero_ok, zero_ok, zero_ok⟩, by simp⟩⟩
    have hl := HOW.out.lt
    refine ⟨row_grow (row_new w _) (HB1.out.alloc _), row_new _ _, ?_, OwnC.nil _ _ _ _ _, World.ownsRow_nil _ _ _ _, ((Grow.refl w).alloc _).trans (HB1.out.alloc _), by simp, fun k hk => (hl k hk).2, z1, .inl rfl⟩
    have hs0 : (w.alloc (.cells zrow 29)).heap.size = w.heap.size + 1 := by simp
    have h2 := HOW.out
    rw [hs0] at h2
    refine (h2.mono fun a u e => ?_).grow ((Grow.refl _).alloc _)
    unfold fr at e
    split at e
    · cases e
    · rename_i hn
      have hlt := World.block_lt_of_cell? w1 a e
      rw [hs0] at hn
      unfold hmem
      rw [fr_new (by omega)]
      · exact ((Grow.refl w1).alloc _).sub _ _ e
      · simp only [List.mem_cons, List.not_mem_nil, or_false, not_or]
        refine ⟨fun e => hn (.inr (by simp [e])), by simp [Value.ownBlock], by simp [Value.ownBlock], fun e => ?_, fun e => ?_⟩
        · have := Option.some.inj e; exact hn (.inl (by omega))
        · have := Option.some.inj e; omega
  case round =>
    obtain ⟨k, h, vr, vd, hk', rfl, hfold, hbox, hok⟩ := hrel
    obtain ⟨ar, cr, rfl⟩ := hbox.ready.form
    obtain ⟨ad, cd, rfl⟩ := owns_form hbox.done
    have HFD := Lib.hid hfold
    have HBX := Lib.hid hbox
    have HOK0 := Lib.hid hok
    have z3 := hbox.size
    have z4 : w1.heap.size < wr.heap.size := by omega
    by_cases hlt : k < l.length
    · obtain ⟨gl, cs, rfl, ⟨vp, rfl, i0, i1, hP⟩, hA⟩ := hbox.log.get (by decide) k hlt
      have hP' := hP.mono (fr_sub _ _ _)
      obtain ⟨ap, cp, rfl, -⟩ := id hP'
      have c0 := hA 0 _ rfl
      have c1 := hA 1 _ rfl
      have c2 := hA 2 _ rfl
      simp only [Nat.add_zero, Ty.rc] at c0 c1 c2
      have htk : (l.take (k + 1)).foldl refStep ⟨l, ⟨0, 0, 0, 0⟩, [], []⟩ = refStep h l[k] := by rw [List.take_succ_eq_append_getElem hlt, List.foldl_append, HFD.out]; rfl
      have HTK := Lib.hid htk
      have hkk := HK.out l[k] (List.getElem_mem _)
      have hpl := HP.out l[k] (List.getElem_mem _)
      have HCL := Lib.hid (fun (W : World) (hW : Grow wr W) => clone_pt W (hP'.mono hW.sub) hpl)
      have HI := Lib.hid (And.intro i0 (And.intro i1 (Pts.ok (c := wr.cell?) hP')))
      have HRDY := Lib.hid (fun (W : World) (hW : Grow wr W) => log_ready (d := l[k].deed) W ((hbox.ready.sl (by decide) (fr_sub _ _ _)).mono hW.sub))
      have HOK1 := Lib.hid (hok_step hok i1 hkk)
      have HRL : Hid (h.ready.length < 3518437208883) := Lib.hid (by have := hok.ready; have := HM.out; omega)
      have HDL : Hid (h.done.length < 3518437208883) := Lib.hid (by have := hok.done; have := HM.out; omega)
      have HINT := Lib.hid hok.ints
      have HKEYS := Lib.hid hok.keys
      have HLT : Hid (∀ q, (Value.slice ar h.ready.length cr).ownBlock = some q → q < wr.heap.size) := fun q hq => (hbox.ready.lt q hq).2
      have HLD : Hid (∀ q, (Value.slice ad h.done.length cd).ownBlock = some q → q < wr.heap.size) := fun q hq => (hbox.done.lt q hq).2
      have HSZ := Lib.hid z3
      clear hfold hok htk hkk hpl hP hP' hA i0 i1 hbox
      generalize l[k] = r at *
      obtain ⟨s0, s1, s2, s3, s4, s5, s6⟩ := cells7 HBX.out.row
      go_wp2_with fail
      refine (HRDY.out _ ((Grow.refl _).alloc _)).mono ?_
      rintro e w2 ⟨rfl, hb2⟩
      have HG2 : Hid (Grow wr w2) := Lib.hid (((Grow.refl wr).alloc _).trans hb2)
      have HB2 := Lib.hid (HBX.out.later HG2.out)
      have HR5 := Lib.hid (row_grow (row_new wr (.cells #[.int .i64 r.kind, .int .i64 r.deed, .slice ap r.parts.length cp] 48)) hb2)
      clear hb2 s0 s1 s2 s3 s4 s5 s6 c0 c1 c2
      obtain ⟨s0, s1, s2, s3, s4, s5, s6⟩ := cells7 HB2.out.row
      obtain ⟨q0, q1, q2⟩ := cells3 HR5.out
      have s9 : w1.heap.size < w2.heap.size := (Array.getElem?_eq_some_iff.1 HB2.out.row).1
      have q9 : wr.heap.size < w2.heap.size := (Array.getElem?_eq_some_iff.1 HR5.out).1
      cases hix : h.ready.findIdx? (isD r.deed) with
      | none =>
        have hid : idxOf (isD r.deed) h.ready = -1 := by unfold idxOf; rw [hix]
        have hst := step_idx_none hix
        rw [hid]
        clear hix hid
        by_cases k1 : r.kind = 1
        · have b1 : (r.kind == 1) = true := by simp [k1]
          rw [if_pos k1] at hst
          have HFO := Lib.hid (HTK.out.trans hst)
          have HOK := Lib.hid (hst ▸ HOK1.out)
          clear hst k1
          have l3 : w1.heap.size < w2.heap.size := by have := HB2.out.size; omega
          have l5 : wr.heap.size < w2.heap.size := (Array.getElem?_eq_some_iff.1 HR5.out).1
          have n3 : (Value.slice ar h.ready.length cr).ownBlock ≠ some w1.heap.size := fun e => by have := (HB2.out.ready.lt _ e).1; omega
          have n5 : (Value.slice ar h.ready.length cr).ownBlock ≠ some wr.heap.size := fun e => by have := HLT.out _ e; omega
          have HS : Hid (∀ W, w2.grownBy W (Value.slice ar h.ready.length cr).ownBlock → W.cell? ⟨w1.heap.size, 5, none⟩ = some (.slice ar h.ready.length cr) ∧ W.cell? ⟨wr.heap.size, 1, none⟩ = some (.int .i64 r.deed) ∧ W.cell? ⟨wr.heap.size, 2, none⟩ = some (.slice ap r.parts.length cp)) := fun W hW => ⟨by rw [World.cell?_of_block (hW.block w1.heap.size l3 (fun e => n3 e.symm))]; exact s5, by rw [World.cell?_of_block (hW.block wr.heap.size l5 (fun e => n5 e.symm))]; exact q1, by rw [World.cell?_of_block (hW.block wr.heap.size l5 (fun e => n5 e.symm))]; exact q2⟩
          go_wp2
          clear s0 s1 s2 s3 s4 s5 s6 q0 q1 q2
          refine but_start (fun w' => w'.cell? ⟨w1.heap.size, 5, none⟩ = some (.slice ar h.ready.length cr) ∧ w'.cell? ⟨wr.heap.size, 1, none⟩ = some (.int .i64 r.deed) ∧ w'.cell? ⟨wr.heap.size, 2, none⟩ = some (.slice ap r.parts.length cp)) 11 (by kernel_rfl) ?_
          obtain ⟨wd, hWd⟩ : ∃ x : World, x = w2.drew := ⟨_, rfl⟩
          rw [← hWd]
          have GD : Grow w2 wd := by rw [hWd]; exact (Grow.refl _).drew
          have zD : w2.heap.size = wd.heap.size := by rw [hWd]; rfl
          have ZD := Lib.hid zD
          clear hWd zD
          refine but_take (i := 0) (v := ?_) 8 rfl (by kernel_rfl) (by kernel_rfl) (by kernel_rfl) (by kernel_rfl) (by kernel_rfl) (fun _ _ _ h => h) (HS.out _ (grownBy_of_grow GD _)) (Or.inl ⟨by rfl, ?_⟩) ?_
          rotate_left
          · (intro w' hSw; (try dsimp only at hSw); obtain ⟨hs0, hs1, hs2⟩ := hSw; go_simp <;> with_reducible rfl)
          try simp only [Act.put, List.getElem_toArray, List.getElem_cons_zero, List.setIfInBounds_toArray, List.set_cons_zero, List.set_cons_succ]
          refine but_take (i := 1) (v := ?_) 8 rfl (by kernel_rfl) (by kernel_rfl) (by kernel_rfl) (by kernel_rfl) (by kernel_rfl) (fun _ _ _ h => h) (HS.out _ (grownBy_of_grow GD _)) (Or.inl ⟨by rfl, ?_⟩) ?_
          rotate_left
          · (intro w' hSw; (try dsimp only at hSw); obtain ⟨hs0, hs1, hs2⟩ := hSw; go_simp <;> with_reducible rfl)
          try simp only [Act.put, List.getElem_toArray, List.getElem_cons_succ, List.getElem_cons_zero, List.setIfInBounds_toArray, List.set_cons_zero, List.set_cons_succ]
          refine but_take (i := 2) (v := ?_) 8 rfl (by kernel_rfl) (by kernel_rfl) (by kernel_rfl) (by kernel_rfl) (by kernel_rfl) (fun _ _ _ h => h) (HS.out _ (grownBy_of_grow GD _)) (Or.inl ⟨by rfl, ?_⟩) ?_
          rotate_left
          · (intro w' hSw; (try dsimp only at hSw); obtain ⟨hs0, hs1, hs2⟩ := hSw; go_simp <;> with_reducible rfl)
          try simp only [Act.put, List.getElem_toArray, List.getElem_cons_succ, List.getElem_cons_zero, List.setIfInBounds_toArray, List.set_cons_zero, List.set_cons_succ]
          refine but_take (i := 3) (v := ?_) 8 rfl (by kernel_rfl) (by kernel_rfl) (by kernel_rfl) (by kernel_rfl) (by kernel_rfl) (fun _ _ _ h => h) (HS.out _ (grownBy_of_grow GD _)) (Or.inl ⟨by rfl, ?_⟩) ?_
          rotate_left
          · (intro w' hSw; (try dsimp only at hSw); obtain ⟨hs0, hs1, hs2⟩ := hSw; go_simp <;> with_reducible rfl)
          try simp only [Act.put, List.getElem_toArray, List.getElem_cons_succ, List.getElem_cons_zero, List.setIfInBounds_toArray, List.set_cons_zero, List.set_cons_succ]
          refine but_take (i := 4) (v := ?_) 8 rfl (by kernel_rfl) (by kernel_rfl) (by kernel_rfl) (by kernel_rfl) (by kernel_rfl) (fun _ _ _ h => h) (HS.out _ (grownBy_of_grow GD _)) (Or.inl ⟨by rfl, ?_⟩) ?_
          rotate_left
          · (intro w' hSw; (try dsimp only at hSw); obtain ⟨hs0, hs1, hs2⟩ := hSw; go_simp <;> with_reducible rfl)
          try simp only [Act.put, List.getElem_toArray, List.getElem_cons_succ, List.getElem_cons_zero, List.setIfInBounds_toArray, List.set_cons_zero, List.set_cons_succ]
          refine but_take (i := 5) (v := ?_) 8 rfl (by kernel_rfl) (by kernel_rfl) (by kernel_rfl) (by kernel_rfl) (by kernel_rfl) (fun _ _ _ h => h) (HS.out _ (grownBy_of_grow GD _)) (Or.inl ⟨by rfl, ?_⟩) ?_
          rotate_left
          · (intro w' hSw; (try dsimp only at hSw); obtain ⟨hs0, hs1, hs2⟩ := hSw; go_simp <;> with_reducible rfl)
          try simp only [Act.put, List.getElem_toArray, List.getElem_cons_succ, List.getElem_cons_zero, List.setIfInBounds_toArray, List.set_cons_zero, List.set_cons_succ]
          refine but_one (i := 6) (by kernel_rfl) rfl ?_
          intro K HK'
          have HK := Lib.hid HK'
          clear HK'
          skip
          try simp only [List.getElem_toArray, List.getElem_cons_succ, List.getElem_cons_zero]
          go_simp
          go_at_call 122
          refine (HCL.out _ (HG2.out.trans GD)).mono ?_
          rintro e w3 ⟨v3, rfl, ho3, hb3⟩
          obtain ⟨a3, c3, rfl⟩ := owns_form ho3
          have HO3 := Lib.hid ho3
          have G3 := GD.trans hb3
          clear ho3 hb3
          refine HK.out _ _ ⟨fun _ => HS.out _ (grownBy_of_grow G3 _), ?_⟩
          clear HK K
          try simp only [Act.put, List.getElem_toArray, List.getElem_cons_succ, List.getElem_cons_zero, List.setIfInBounds_toArray, List.set_cons_zero, List.set_cons_succ]
          refine but_one (i := 7) (by kernel_rfl) rfl ?_
          intro K HK'
          have HK := Lib.hid HK'
          clear HK'
          skip
          try simp only [List.getElem_toArray, List.getElem_cons_succ, List.getElem_cons_zero]
          go_simp
          refine HK.out _ _ ⟨fun _ => HS.out _ (grownBy_of_grow G3 _), ?_⟩
          clear HK K
          try simp only [Act.put, List.getElem_toArray, List.getElem_cons_succ, List.getElem_cons_zero, List.setIfInBounds_toArray, List.set_cons_zero, List.set_cons_succ]
          refine but_one (i := 8) (by kernel_rfl) rfl ?_
          intro K HK'
          have HK := Lib.hid HK'
          clear HK'
          skip
          try simp only [List.getElem_toArray, List.getElem_cons_succ, List.getElem_cons_zero]
          go_simp
          refine HK.out _ _ ⟨fun _ => HS.out _ (grownBy_of_grow (G3.alloc _) _), ?_⟩
          clear HK K
          try simp only [Act.put, List.getElem_toArray, List.getElem_cons_succ, List.getElem_cons_zero, List.setIfInBounds_toArray, List.set_cons_zero, List.set_cons_succ]
          refine but_one (i := 9) (by kernel_rfl) rfl ?_
          intro K HK'
          have HK := Lib.hid HK'
          clear HK'
          refine wanted_go rfl ?_
          try simp only [List.getElem_toArray, List.getElem_cons_succ, List.getElem_cons_zero]
          have bA := HB2.out.later (w' := (w3.alloc (.cells #[.int .i64 r.deed, .slice a3 r.parts.length c3] 45))) (G3.alloc _)
          have hR9 : Ty.rd.R (hmem w w1 (w3.alloc (.cells #[.int .i64 r.deed, .slice a3 r.parts.length c3] 45)) (.slice (some ⟨gl, 0, none⟩) l.length cl) (.slice ar h.ready.length cr) (.slice ad h.done.length cd)) (#[.int .i64 r.deed, .slice a3 r.parts.length c3] : Array Value).toList ⟨r.deed, r.parts⟩ := by
            refine ⟨_, rfl, HI.out.2.1, pts_fr (w1 := wd) ((HO3.out).kept (grownBy_of_grow ((Grow.refl _).alloc _) none) (by cases (Value.slice a3 r.parts.length c3).ownBlock <;> simp)) HI.out.2.2 (by have := HB2.out.grow.size; have := GD.size; omega) fun q hq => ?_⟩
            have z1 := HB2.out.ready.lt
            have z2 := HB2.out.log.lt
            have z3 := HB2.out.done.lt
            have z4 := HB2.out.size
            have z5 := HB2.out.w1
            have z6 := GD.size
            simp only [List.mem_cons, List.not_mem_nil, or_false, not_or]
            exact ⟨fun e => by have := (z2 q e.symm).2; omega, fun e => by have := (z1 q e.symm).2; omega, fun e => by have := (z3 q e.symm).2; omega, fun e => by have := Option.some.inj e; omega, fun e => by have := Option.some.inj e; omega⟩
          have HR9 := Lib.hid hR9
          have HBA := Lib.hid bA
          clear hR9 bA
          refine wp_appc (c := (hmem w w1 (w3.alloc (.cells #[.int .i64 r.deed, .slice a3 r.parts.length c3] 45)) (.slice (some ⟨gl, 0, none⟩) l.length cl) (.slice ar h.ready.length cr) (.slice ad h.done.length cd))) (base := w1.heap.size + 1) (l := h.ready) (m := [⟨r.deed, r.parts⟩]) ei_rd rfl one_Trd (by decide) (.tmp 31) (.tmp 38) rfl rfl HBA.out.ready rfl (Src.of_new (T := Ty.rd) (cs := #[.int .i64 r.deed, .slice a3 r.parts.length c3]) HR9.out _ _ rfl) (by have := HRL.out; simp; omega) HBA.out.size ?_
          intro a9 c9 w9 ho9 hg9 hb9
          have HO9 := Lib.hid ho9
          have HG9 := Lib.hid hg9
          have HB9 := Lib.hid hb9
          have GB9 := Lib.hid (grownBy_trans (grownBy_of_grow (G3.alloc _) _) hg9)
          obtain ⟨t5, -, -⟩ := HS.out _ GB9.out
          have tf : ∀ o, w9.frozen? ⟨w1.heap.size, o, none⟩ = false := row_free (row_by HBA.out.row hg9 (fun e => n3 e.symm))
          have t9 : w1.heap.size < w9.heap.size := World.block_lt_of_cell? w9 _ t5
          clear ho9 hg9 hb9
          refine HK.out _ _ ⟨fun _ => HS.out _ GB9.out, ?_⟩
          clear HK K
          try simp only [Act.put, List.setIfInBounds_toArray, List.set_cons_zero, List.set_cons_succ]
          refine but_one (i := 10) (by kernel_rfl) rfl ?_
          intro K HK'
          have HK := Lib.hid HK'
          clear HK'
          skip
          try simp only [List.getElem_toArray, List.getElem_cons_succ, List.getElem_cons_zero]
          go_simp
          refine HK.out _ _ ⟨fun _ => HS.out _ GB9.out, ?_⟩
          clear HK K
          try simp only [Act.put, List.getElem_toArray, List.getElem_cons_succ, List.getElem_cons_zero, List.setIfInBounds_toArray, List.set_cons_zero, List.set_cons_succ]
          refine but_one (i := 11) (by kernel_rfl) rfl ?_
          intro K HK'
          have HK := Lib.hid HK'
          clear HK'
          skip
          try simp only [List.getElem_toArray, List.getElem_cons_succ, List.getElem_cons_zero]
          go_simp
          refine HK.out _ _ ⟨fun h => absurd rfl h, ?_⟩
          clear HK K
          try simp only [Act.put, List.getElem_toArray, List.getElem_cons_succ, List.getElem_cons_zero, List.setIfInBounds_toArray, List.set_cons_zero, List.set_cons_succ]
          refine but_done (by kernel_rfl) ?_
          have HX := LBox.appR HB2.out (G3.alloc _) HO9.out HG9.out (HB9.out.imp_right fun ⟨g, e, hge⟩ => ⟨g, e, by simpa using hge⟩)
          go_wp2
          go_roundw
          case rel => exact ⟨k + 1, _, _, _, by omega, by go_num, HFO.out, HX.1, HOK.out⟩
          case measure => simp [intOf]; omega
        · rw [if_neg k1] at hst
          have HFO := Lib.hid (HTK.out.trans hst)
          have HOK := Lib.hid (hst ▸ HOK1.out)
          have b1 : (r.kind == 1) = false := by simp [k1]
          clear hst
          by_cases k2 : r.kind = 2
          · have b2 : (r.kind == 2) = true := by simp [k2]
            have b3 : (r.kind == 3) = false := by simp [k2]
            clear k1 k2
            go_wp2
            go_roundw
            case rel => exact ⟨k + 1, _, _, _, by omega, by go_num, HFO.out, HB2.out, HOK.out⟩
            case measure => simp [intOf]; omega
          · have b2 : (r.kind == 2) = false := by simp [k2]
            by_cases k3 : r.kind = 3
            · have b3 : (r.kind == 3) = true := by simp [k3]
              clear k1 k2 k3
              go_wp2
              go_roundw
              case rel => exact ⟨k + 1, _, _, _, by omega, by go_num, HFO.out, HB2.out, HOK.out⟩
              case measure => simp [intOf]; omega
            · have b3 : (r.kind == 3) = false := by simp [k3]
              clear k1 k2 k3
              go_wp2
              go_roundw
              case rel => exact ⟨k + 1, _, _, _, by omega, by go_num, HFO.out, HB2.out, HOK.out⟩
              case measure => simp [intOf]; omega
      | some i =>
        have hid : idxOf (isD r.deed) h.ready = (i : Int) := by unfold idxOf; rw [hix]
        obtain ⟨hi, hst⟩ := step_idx_some hix
        rw [hid]
        clear hix hid
        obtain ⟨gr, csx, rfl, ⟨vx, rfl, -, hX⟩, hAx⟩ := HB2.out.ready.get (by decide) i hi
        have hX' := hX.mono (fr_sub _ _ _)
        obtain ⟨ax, cx, rfl, -⟩ := id hX'
        have x1 := hAx 1 _ rfl
        simp only [Ty.rd] at x1
        have HDO := Lib.hid (fun (W : World) (hW : Grow w2 W) => part_do (s := h.sums) W (hX'.mono hW.sub) (HKEYS.out _ (List.getElem_mem hi)))
        have HII := Lib.hid hi
        have hib : i < 3518437208883 := by have := HRL.out; omega
        have gr9 : gr < w2.heap.size := World.block_lt_of_cell? w2 _ x1
        clear hX hX' hAx
        by_cases k2 : r.kind = 2
        · have b1 : (r.kind == 1) = false := by simp [k2]
          have b2 : (r.kind == 2) = true := by simp [k2]
          rw [if_pos k2] at hst
          have HFO := Lib.hid (HTK.out.trans hst)
          have HOK := Lib.hid (hst ▸ HOK1.out)
          clear hst k2
          generalize h.ready[i] = x at *
          have HS : Hid (∀ W, Grow w2 W → W.cell? ⟨w1.heap.size, 1, none⟩ = some (.int .i64 h.sums.a) ∧ W.cell? ⟨w1.heap.size, 2, none⟩ = some (.int .i64 h.sums.b) ∧ W.cell? ⟨w1.heap.size, 3, none⟩ = some (.int .i64 h.sums.c) ∧ W.cell? ⟨w1.heap.size, 4, none⟩ = some (.int .i64 h.sums.d) ∧ W.cell? ⟨w1.heap.size, 5, none⟩ = some (.slice (some ⟨gr, 0, none⟩) h.ready.length cr) ∧ W.cell? ⟨gr, i * 2 + 1, none⟩ = some (.slice ax x.parts.length cx)) := fun W hW => ⟨hW.sub _ _ s1, hW.sub _ _ s2, hW.sub _ _ s3, hW.sub _ _ s4, hW.sub _ _ s5, hW.sub _ _ x1⟩
          go_wp2
          clear s0 s1 s2 s3 s4 s5 s6 q0 q1 q2
          refine but_start (fun w' => w'.cell? ⟨w1.heap.size, 1, none⟩ = some (.int .i64 h.sums.a) ∧ w'.cell? ⟨w1.heap.size, 2, none⟩ = some (.int .i64 h.sums.b) ∧ w'.cell? ⟨w1.heap.size, 3, none⟩ = some (.int .i64 h.sums.c) ∧ w'.cell? ⟨w1.heap.size, 4, none⟩ = some (.int .i64 h.sums.d) ∧ w'.cell? ⟨w1.heap.size, 5, none⟩ = some (.slice (some ⟨gr, 0, none⟩) h.ready.length cr) ∧ w'.cell? ⟨gr, i * 2 + 1, none⟩ = some (.slice ax x.parts.length cx)) 10 (by kernel_rfl) ?_
          obtain ⟨wd, hWd⟩ : ∃ x : World, x = w2.drew := ⟨_, rfl⟩
          rw [← hWd]
          have GD : Grow w2 wd := by rw [hWd]; exact (Grow.refl _).drew
          have zD : w2.heap.size = wd.heap.size := by rw [hWd]; rfl
          have ZD := Lib.hid zD
          clear hWd zD
          refine but_take (i := 0) (v := ?_) 8 rfl (by kernel_rfl) (by kernel_rfl) (by kernel_rfl) (by kernel_rfl) (by kernel_rfl) (fun _ _ _ h => h) (HS.out _ GD) (Or.inl ⟨by rfl, ?_⟩) ?_
          rotate_left
          · (intro w' hSw; (try dsimp only at hSw); obtain ⟨hs0, hs1, hs2, hs3, hs4, hs5⟩ := hSw; go_simp <;> with_reducible rfl)
          try simp only [Act.put, List.getElem_toArray, List.getElem_cons_zero, List.setIfInBounds_toArray, List.set_cons_zero, List.set_cons_succ]
          refine but_take (i := 1) (v := ?_) 8 rfl (by kernel_rfl) (by kernel_rfl) (by kernel_rfl) (by kernel_rfl) (by kernel_rfl) (fun _ _ _ h => h) (HS.out _ GD) (Or.inl ⟨by rfl, ?_⟩) ?_
          rotate_left
          · (intro w' hSw; (try dsimp only at hSw); obtain ⟨hs0, hs1, hs2, hs3, hs4, hs5⟩ := hSw; go_simp <;> with_reducible rfl)
          try simp only [Act.put, List.getElem_toArray, List.getElem_cons_succ, List.getElem_cons_zero, List.setIfInBounds_toArray, List.set_cons_zero, List.set_cons_succ]
          refine but_take (i := 2) (v := ?_) 8 rfl (by kernel_rfl) (by kernel_rfl) (by kernel_rfl) (by kernel_rfl) (by kernel_rfl) (fun _ _ _ h => h) (HS.out _ GD) (Or.inl ⟨by rfl, ?_⟩) ?_
          rotate_left
          · (intro w' hSw; (try dsimp only at hSw); obtain ⟨hs0, hs1, hs2, hs3, hs4, hs5⟩ := hSw; go_simp <;> with_reducible rfl)
          try simp only [Act.put, List.getElem_toArray, List.getElem_cons_succ, List.getElem_cons_zero, List.setIfInBounds_toArray, List.set_cons_zero, List.set_cons_succ]
          refine but_take (i := 3) (v := ?_) 8 rfl (by kernel_rfl) (by kernel_rfl) (by kernel_rfl) (by kernel_rfl) (by kernel_rfl) (fun _ _ _ h => h) (HS.out _ GD) (Or.inl ⟨by rfl, ?_⟩) ?_
          rotate_left
          · (intro w' hSw; (try dsimp only at hSw); obtain ⟨hs0, hs1, hs2, hs3, hs4, hs5⟩ := hSw; go_simp <;> with_reducible rfl)
          try simp only [Act.put, List.getElem_toArray, List.getElem_cons_succ, List.getElem_cons_zero, List.setIfInBounds_toArray, List.set_cons_zero, List.set_cons_succ]
          refine but_take (i := 4) (v := ?_) 8 rfl (by kernel_rfl) (by kernel_rfl) (by kernel_rfl) (by kernel_rfl) (by kernel_rfl) (fun _ _ _ h => h) (HS.out _ GD) (Or.inl ⟨by rfl, ?_⟩) ?_
          rotate_left
          · (intro w' hSw; (try dsimp only at hSw); obtain ⟨hs0, hs1, hs2, hs3, hs4, hs5⟩ := hSw; go_simp <;> with_reducible rfl)
          try simp only [Act.put, List.getElem_toArray, List.getElem_cons_succ, List.getElem_cons_zero, List.setIfInBounds_toArray, List.set_cons_zero, List.set_cons_succ]
          refine but_take (i := 5) (v := ?_) 8 rfl (by kernel_rfl) (by kernel_rfl) (by kernel_rfl) (by kernel_rfl) (by kernel_rfl) (fun _ _ _ h => h) (HS.out _ GD) (Or.inl ⟨by rfl, ?_⟩) ?_
          rotate_left
          · (intro w' hSw; (try dsimp only at hSw); obtain ⟨hs0, hs1, hs2, hs3, hs4, hs5⟩ := hSw; go_simp <;> with_reducible rfl)
          try simp only [Act.put, List.getElem_toArray, List.getElem_cons_succ, List.getElem_cons_zero, List.setIfInBounds_toArray, List.set_cons_zero, List.set_cons_succ]
          refine but_take (i := 6) (v := ?_) 8 rfl (by kernel_rfl) (by kernel_rfl) (by kernel_rfl) (by kernel_rfl) (by kernel_rfl) (fun _ _ _ h => h) (HS.out _ GD) (Or.inl ⟨by rfl, ?_⟩) ?_
          rotate_left
          · (intro w' hSw; (try dsimp only at hSw); obtain ⟨hs0, hs1, hs2, hs3, hs4, hs5⟩ := hSw; go_simp <;> with_reducible rfl)
          try simp only [Act.put, List.getElem_toArray, List.getElem_cons_succ, List.getElem_cons_zero, List.setIfInBounds_toArray, List.set_cons_zero, List.set_cons_succ]
          refine but_take (i := 7) (v := ?_) 8 rfl (by kernel_rfl) (by kernel_rfl) (by kernel_rfl) (by kernel_rfl) (by kernel_rfl) (fun _ _ _ h => h) (HS.out _ GD) (Or.inl ⟨by rfl, ?_⟩) ?_
          rotate_left
          · (intro w' hSw; (try dsimp only at hSw); obtain ⟨hs0, hs1, hs2, hs3, hs4, hs5⟩ := hSw; go_simp <;> with_reducible rfl)
          try simp only [Act.put, List.getElem_toArray, List.getElem_cons_succ, List.getElem_cons_zero, List.setIfInBounds_toArray, List.set_cons_zero, List.set_cons_succ]
          refine but_one (i := 8) (by kernel_rfl) rfl ?_
          intro K HK'
          have HK := Lib.hid HK'
          clear HK'
          skip
          try simp only [List.getElem_toArray, List.getElem_cons_succ, List.getElem_cons_zero]
          go_simp
          go_at_call 88
          refine (HDO.out _ GD).mono ?_
          rintro e w3 ⟨rfl, hb3⟩
          have G3 := GD.trans hb3
          clear hb3
          obtain ⟨u1, u2, u3, u4, -, -⟩ := HS.out _ G3
          have uf : ∀ o, w3.frozen? ⟨w1.heap.size, o, none⟩ = false := row_free (row_grow HB2.out.row G3)
          have u9 : w1.heap.size < w3.heap.size := World.block_lt_of_cell? w3 _ u1
          refine HK.out _ _ ⟨fun _ => HS.out _ G3, ?_⟩
          clear HK K
          try simp only [Act.put, List.getElem_toArray, List.getElem_cons_succ, List.getElem_cons_zero, List.setIfInBounds_toArray, List.set_cons_zero, List.set_cons_succ]
          refine but_one (i := 9) (by kernel_rfl) rfl ?_
          intro K HK'
          have HK := Lib.hid HK'
          clear HK'
          skip
          try simp only [List.getElem_toArray, List.getElem_cons_succ, List.getElem_cons_zero]
          go_simp
          refine HK.out _ _ ⟨fun _ => HS.out _ G3, ?_⟩
          clear HK K
          try simp only [Act.put, List.getElem_toArray, List.getElem_cons_succ, List.getElem_cons_zero, List.setIfInBounds_toArray, List.set_cons_zero, List.set_cons_succ]
          refine but_one (i := 10) (by kernel_rfl) rfl ?_
          intro K HK'
          have HK := Lib.hid HK'
          clear HK'
          skip
          try simp only [List.getElem_toArray, List.getElem_cons_succ, List.getElem_cons_zero]
          go_simp
          refine HK.out _ _ ⟨fun h => absurd rfl h, ?_⟩
          clear HK K
          try simp only [Act.put, List.getElem_toArray, List.getElem_cons_succ, List.getElem_cons_zero, List.setIfInBounds_toArray, List.set_cons_zero, List.set_cons_succ]
          refine but_done (by kernel_rfl) ?_
          obtain ⟨bs, cs4⟩ := LBox.sum (s := doP h.sums x.parts) HB2.out G3
          have r5 : ((((w3.setCell ⟨w1.heap.size, 1, none⟩ (.int .i64 (doP h.sums x.parts).a)).setCell ⟨w1.heap.size, 2, none⟩ (.int .i64 (doP h.sums x.parts).b)).setCell ⟨w1.heap.size, 3, none⟩ (.int .i64 (doP h.sums x.parts).c)).setCell ⟨w1.heap.size, 4, none⟩ (.int .i64 (doP h.sums x.parts).d)).heap[wr.heap.size]? = some (.cells #[.int .i64 r.kind, .int .i64 r.deed, .slice ap r.parts.length cp] 48 (0, 0)) := by rw [cs4.block _ (Array.getElem?_eq_some_iff.1 HR5.out).1 (by have := HB2.out.size; have := HSZ.out; omega) (fun e => by have := HLT.out _ e; omega) (fun e => by have := HLD.out _ e; omega)]; exact HR5.out
          clear u1 u2 u3 u4 uf u9
          generalize ((((w3.setCell ⟨w1.heap.size, 1, none⟩ (.int .i64 (doP h.sums x.parts).a)).setCell ⟨w1.heap.size, 2, none⟩ (.int .i64 (doP h.sums x.parts).b)).setCell ⟨w1.heap.size, 3, none⟩ (.int .i64 (doP h.sums x.parts).c)).setCell ⟨w1.heap.size, 4, none⟩ (.int .i64 (doP h.sums x.parts).d)) = w4 at *
          have HB4 := Lib.hid bs
          have HR54 := Lib.hid r5
          clear bs cs4 r5
          obtain ⟨s0, s1, s2, s3, s4, s5, s6⟩ := cells7 HB4.out.row
          have sf := row_free HB4.out.row
          have s9 : w1.heap.size < w4.heap.size := (Array.getElem?_eq_some_iff.1 HB4.out.row).1
          obtain ⟨q0, q1, q2⟩ := cells3 HR54.out
          have q9 : wr.heap.size < w4.heap.size := (Array.getElem?_eq_some_iff.1 HR54.out).1
          dsimp only at s0 s1 s2 s3 s4 s5 s6
          go_wp2_with (first | (at_builtin; refine wpList_appc (c := fun _ => none) (base := w1.heap.size + 1) (l := h.done) (m := [r.deed]) ei_int rfl one_Tint (by decide) rfl (.tmp 60) (.tmp 63) rfl rfl ?own rfl (Src.of_new (T := Ty.int) (cs := #[.int .i64 r.deed]) ⟨rfl, HI.out.2.1⟩ _ _ ?d1) ?d2 ?d3 ?_))
          case own => exact (OwnC.ints HB4.out.done HINT.out).grow ((Grow.refl _).alloc _)
          case d1 => rfl
          case d2 => have := HDL.out; simp; omega
          case d3 => have := HB4.out.size; simp; omega
          intro a5 c5 w5 ho5 hg5 hb5
          obtain ⟨bd, cd5⟩ := LBox.appD (x := r.deed) HB4.out ((Grow.refl w4).alloc (.cells #[.int .i64 r.deed] 3)) (ints_back ho5) hg5 (hb5.imp_right fun ⟨g, e, hge⟩ => ⟨g, e, by simpa using hge⟩)
          have HBD := Lib.hid bd
          have HCD := Lib.hid cd5
          have t6 : w5.heap[w1.heap.size]? = _ := row_by (row_grow HB4.out.row ((Grow.refl w4).alloc (.cells #[.int .i64 r.deed] 3))) hg5 (fun e => by have := (HB4.out.done.lt _ e.symm).1; omega)
          clear bd cd5 s0 s1 s2 s3 s4 s5 s6 sf q0 q1 q2
          obtain ⟨s0, s1, s2, s3, s4, s5, s6⟩ := cells7 t6
          have sf := row_free t6
          have s8 : w1.heap.size < w5.heap.size := (Array.getElem?_eq_some_iff.1 t6).1
          dsimp only at s0 s1 s2 s3 s4 s5 s6
          clear t6 ho5 hg5 hb5
          go_wp2_with fail
          generalize w5.setCell ⟨w1.heap.size, 6, none⟩ (.slice a5 (h.done.length + 1) c5) = w6 at *
          obtain ⟨css, k1, k2, k3⟩ := HBD.out.ready
          have h1c : ∀ u ∈ css.flatten, u.oneCell' = true := by
            intro u hu
            obtain ⟨cs, hcs, huc⟩ := List.mem_flatten.1 hu
            obtain ⟨j, hj, rfl⟩ := List.mem_iff_getElem.1 hcs
            exact one_Trd _ _ _ (k3 j css[j] _ (by simp) (List.getElem?_eq_getElem (by omega))) u huc
          have HK1 := Lib.hid k1
          have HK2 := Lib.hid k2
          have HK3 := Lib.hid k3
          have H1C := Lib.hid h1c
          clear k1 k2 k3 h1c
          refine (delete_rd (i := i) HK1.out HII.out H1C.out).mono ?_
          rintro e w7 ⟨rfl, ho7, hg7⟩
          have t7 := row_by HBD.out.row hg7 (fun e => by have := (HBD.out.ready.lt gr rfl).1; have := Option.some.inj e; omega)
          obtain ⟨u0, u1, u2, u3, u4, u5, u6⟩ := cells7 t7
          have uf := row_free t7
          have u9 : w1.heap.size < w7.heap.size := (Array.getElem?_eq_some_iff.1 t7).1
          have HX := Lib.hid (LBox.delR (h := { h with sums := doP h.sums x.parts, done := h.done ++ [r.deed] }) HBD.out (Grow.refl _) HII.out HK2.out HK3.out ho7 hg7)
          clear t7 ho7 hg7
          go_wp2
          go_roundw
          case rel => exact ⟨k + 1, _, _, _, by omega, by go_num, HFO.out, HX.out.1, HOK.out⟩
          case measure => simp [intOf]; omega
        · have b2 : (r.kind == 2) = false := by simp [k2]
          rw [if_neg k2] at hst
          by_cases k3 : r.kind = 3
          · have b1 : (r.kind == 1) = false := by simp [k3]
            have b3 : (r.kind == 3) = true := by simp [k3]
            rw [if_pos k3] at hst
            have HFO := Lib.hid (HTK.out.trans hst)
            have HOK := Lib.hid (hst ▸ HOK1.out)
            clear hst k2 k3
            go_wp2_with fail
            obtain ⟨css, k1, k2, k3⟩ := HB2.out.ready
            have h1c : ∀ u ∈ css.flatten, u.oneCell' = true := by
              intro u hu
              obtain ⟨cs, hcs, huc⟩ := List.mem_flatten.1 hu
              obtain ⟨j, hj, rfl⟩ := List.mem_iff_getElem.1 hcs
              exact one_Trd _ _ _ (k3 j css[j] _ (by simp) (List.getElem?_eq_getElem (by omega))) u huc
            have HK1 := Lib.hid k1
            have HK2 := Lib.hid k2
            have HK3 := Lib.hid k3
            have H1C := Lib.hid h1c
            clear k1 k2 k3 h1c
            refine (delete_rd (i := i) HK1.out HII.out H1C.out).mono ?_
            rintro e w7 ⟨rfl, ho7, hg7⟩
            have t7 := row_by HB2.out.row hg7 (fun e => by have := (HB2.out.ready.lt gr rfl).1; have := Option.some.inj e; omega)
            obtain ⟨u0, u1, u2, u3, u4, u5, u6⟩ := cells7 t7
            have uf := row_free t7
            have u9 : w1.heap.size < w7.heap.size := (Array.getElem?_eq_some_iff.1 t7).1
            have HX := Lib.hid (LBox.delR HB2.out (Grow.refl _) HII.out HK2.out HK3.out ho7 hg7)
            clear t7 ho7 hg7
            go_wp2
            go_roundw
            case rel => exact ⟨k + 1, _, _, _, by omega, by go_num, HFO.out, HX.out.1, HOK.out⟩
            case measure => simp [intOf]; omega
          · have b3 : (r.kind == 3) = false := by simp [k3]
            rw [if_neg k3] at hst
            have HFO := Lib.hid (HTK.out.trans hst)
            have HOK := Lib.hid (hst ▸ HOK1.out)
            by_cases k1 : r.kind = 1
            · have b1 : (r.kind == 1) = true := by simp [k1]
              clear hst k1 k2 k3
              go_wp2
              go_roundw
              case rel => exact ⟨k + 1, _, _, _, by omega, by go_num, HFO.out, HB2.out, HOK.out⟩
              case measure => simp [intOf]; omega
            · have b1 : (r.kind == 1) = false := by simp [k1]
              clear hst k1 k2 k3
              go_wp2
              go_roundw
              case rel => exact ⟨k + 1, _, _, _, by omega, by go_num, HFO.out, HB2.out, HOK.out⟩
              case measure => simp [intOf]; omega
    · have HH : Hid (h = houseR l) := by show h = _; rw [← HFD.out, List.take_of_length_le (by omega)]; rfl
      obtain ⟨s0, s1, s2, s3, s4, s5, s6⟩ := cells7 hbox.row
      clear hfold hok hbox
      go_wp2_with (first | (refine wpList_store_row rfl (.tmp 2) (.tmp 89) rfl rfl rfl HBX.out.res info_hs rfl rfl ?_))
      intro wf r2 g2
      obtain ⟨p0, p1, p2, p3, p4, p5, p6⟩ := cells7 r2
      have pf := row_free r2
      clear s0 s1 s2 s3 s4 s5 s6
      go_wp2
      refine bodyPost_ret (v := .agg #[.slice al l.length cl, .int .i64 h.sums.a, .int .i64 h.sums.b, .int .i64 h.sums.c, .int .i64 h.sums.d, .slice ar h.ready.length cr, .slice ad h.done.length cd]) (by simp [results, Try.results36, go_sem, p0, p1, p2, p3, p4, p5, p6]) rfl ?_
      have hlog : h.log = l := by rw [HH.out]; exact log_house l
      have sub : Sub (hmem w w1 wr (.slice al l.length cl) (.slice ar h.ready.length cr) (.slice ad h.done.length cd)) (ov (fun _ => none) w wf) := fun a u e => by
        unfold hmem fr at e
        split at e
        · cases e
        · rename_i hn
          have hne : a.block ≠ w.heap.size := fun e => hn (.inr (by simp [e]))
          rw [ov_new (by omega), by_cell g2 (World.block_lt_of_cell? wr a e) hne]
          exact e
      have hb : ∀ k, w.heap.size + 1 ≤ k → k < wr.heap.size → wf.heap[k]? = wr.heap[k]? := fun k h1 h2 => g2.block k h2 (by simp; omega)
      have hw1 := HBX.out.w1
      have e1 := ((HBX.out.log.mono sub).block fun k hk => hb k (HBX.out.log.lt k hk).1 (HBX.out.log.lt k hk).2).slc (by decide) (Sub.refl _) fun a ha => ov_new (by omega)
      have e2 := ((HBX.out.ready.mono sub).block fun k hk => hb k (by have := (HBX.out.ready.lt k hk).1; omega) (HBX.out.ready.lt k hk).2).slc (by decide) (Sub.refl _) fun a ha => ov_new (by omega)
      have e3 := (OwnC.ints (c := ov (fun _ => none) w wf) (owns_block HBX.out.done fun k hk => hb k (by have := (HBX.out.done.lt k hk).1; omega) (HBX.out.done.lt k hk).2) HOK0.out.ints).slc (by decide) (Sub.refl _) fun a ha => ov_new (by omega)
      have hs := HOK0.out.sums
      rw [← HH.out]
      refine ⟨_, rfl, ⟨_, rfl, _, _, _, rfl, ?_, hs.1, hs.2.1, hs.2.2.1, hs.2.2.2, e2, e3⟩, HBX.out.grow.grown g2 (fun k hk => by simp at hk; omega)⟩
      rw [hlog]; exact e1
end Go.Proofs.Ytgbhpghgohggcaa

/- Walks: Houses of the program's parts. -/
namespace Go.Proofs.Ytgbhpghgohggcaa
open Go.RowKit
theorem flat_ints (l : List Int) : l.flatMap intCell = l.map (Value.int .i64) := by
  induction l with
  | nil => rfl
  | cons x l ih => rw [List.flatMap_cons, ih]; rfl
/-- a row of numbers of the call's own, sorted -/
theorem own_sort {w : World} {base : Nat} {v : Value} {l : List Int} (h : w.ownsRow base 3 1 v l.length (l.flatMap intCell)) (hne : l ≠ []) (hs : l.length < 4611686018427387904) :
    ∃ g, v.ownBlock = some g ∧ base ≤ g ∧ Calls Try.prog 139 #[v] w fun e w' => e = .returned (.tuple #[]) ∧ w'.ownsRow base 3 1 v (l.mergeSort fun x y => decide (x ≤ y)).length ((l.mergeSort fun x y => decide (x ≤ y)).flatMap intCell) ∧ w.grownBy w' (some g) := by
  obtain ⟨hl, ⟨rfl, hn⟩ | ⟨g, cap, cur, rfl, hg, hrow, hnc, hcm, hcs, htake⟩⟩ := h
  · exact absurd (List.eq_nil_of_length_eq_zero hn) hne
  · have ht : cur.toList.take l.length = l.map (Value.int .i64) := by rw [← flat_ints, ← htake, Nat.mul_one]
    refine ⟨g, rfl, hg, (Try.slices_Sort_int g 0 cap l w (holds_of_blockI hrow ht) (Array.getElem?_eq_some_iff.1 hrow).1 hs).mono fun e w' ⟨he, n, os, hw⟩ => ⟨he, ?_, ?_⟩⟩
    · have e : (l.mergeSort fun x y => decide (x ≤ y)).length = l.length := List.length_mergeSort _
      rw [hw, flat_ints, e]
      exact ownsRow_sortedI e hg hrow hnc hcm hcs
    · rw [hw]
      exact grownBy_sortedI _
theorem dedup_snoc : ∀ (l : List Pt) (had : List Int) (p : Pt), dedupE had (l ++ [p]) = if p.h ∈ dedupE had l then dedupE had l else dedupE had l ++ [p.h]
  | [], had, p => rfl
  | q :: l, had, p => by rw [List.cons_append, dedupE, dedupE, dedup_snoc l]
theorem dedup_ok {l : List Pt} (h : ∀ p ∈ l, I64 p.h) : ∀ x ∈ dedupE [] l, I64 x := fun x hx => by
  rcases dedup_mem.1 hx with h0 | ⟨p, hp, rfl⟩
  · simp at h0
  · exact h p hp
theorem dedup_ne {l : List Pt} (h : l ≠ []) : dedupE [] l ≠ [] := by
  intro e
  cases l with
  | nil => exact h rfl
  | cons p l =>
    have : p.h ∈ dedupE [] (p :: l) := dedup_mem.2 (.inr ⟨p, List.mem_cons_self, rfl⟩)
    rw [e] at this
    simp at this
set_option maxRecDepth 100000 in
set_option maxHeartbeats 1000000 in
theorem part_houses {v : Value} {l : List Pt} (w : World) (hv : Pts w.cell? v l) (hm : l.length * 24 ≤ 140737488355328) (hne : l ≠ []) (hp : ∀ p ∈ l, 0 ≤ p.h ∧ p.h < 3) :
    Calls Try.prog 81 #[v] w fun e w' => ∃ v', e = .returned v' ∧ w'.ownsRow w.heap.size 3 1 v' (housesE l).length ((housesE l).flatMap intCell) ∧ Grow w w' := by
  have hok := Pts.ok hv
  have HOK := Lib.hid (fun k => dedup_ok (l := l.take k) fun p hp => (hok p (List.mem_of_mem_take hp)).1)
  have HNE := Lib.hid (dedup_ne hne)
  have HSO := Lib.hid (houses_sort hp)
  have HM := Lib.hid hm
  obtain ⟨a, cap, rfl, h1, h2, -, hel⟩ := hv
  unfold maxLen at h2
  clear hok hp hne hm
  go_enter Try.func81, Try.ntmps81
  go_wp2
  go_loopw [3, 8] (fun v i wr => ∃ k : Nat, k ≤ l.length ∧ i = .int .i64 k ∧ Grow w wr ∧ wr.ownsRow w.heap.size 3 1 v (dedupE [] (l.take k)).length ((dedupE [] (l.take k)).flatMap intCell)) (fun _ i _ => l.length - (intOf i).toNat)
  case atStart => exact ⟨0, by omega, rfl, Grow.refl _, World.ownsRow_nil _ _ _ _⟩
  case round =>
    obtain ⟨k, hk', rfl, hb, hown⟩ := hrel
    obtain ⟨a1, c1, rfl⟩ := owns_form hown
    by_cases hlt : k < l.length
    · obtain ⟨b, o, rfl, c0, d1, d2, -, -, -⟩ := Pts.at_ hel k hlt
      replace c0 := hb.sub _ _ c0
      replace d1 := hb.sub _ _ d1
      replace d2 := hb.sub _ _ d2
      have hD : dedupE [] (l.take (k + 1)) = if l[k].h ∈ dedupE [] (l.take k) then dedupE [] (l.take k) else dedupE [] (l.take k) ++ [l[k].h] := by
        rw [List.take_succ_eq_append_getElem hlt, dedup_snoc]
      have HD := Lib.hid hD
      have hle : (dedupE [] (l.take k)).length ≤ k := by have := dedup_len (l.take k) []; simp at this; omega
      have HIN := Lib.hid (fun (W : World) (hW : Grow wr W) => contains_int (n := l[k].h) W ((Ints.of_own hown (HOK.out k)).mono hW.sub))
      have HOW := Lib.hid hown
      have HB := Lib.hid hb
      clear hel hown hD hb
      generalize dedupE [] (l.take k) = acc at *
      generalize l[k] = p at *
      obtain ⟨ph, pk, pn⟩ := p
      simp only at c0 d1 d2
      go_wp2_with fail
      refine (HIN.out _ ((Grow.refl wr).alloc _)).mono ?_
      by_cases hin : ph ∈ acc
      · rw [decide_eq_true hin]
        rintro e w3 ⟨rfl, hb3⟩
        have HB3 := Lib.hid ((HB.out.alloc _).trans hb3)
        have HO3 := Lib.hid (owns_grow HOW.out (((Grow.refl wr).alloc _).trans hb3))
        have HI := Lib.hid hin
        clear hb3 hin
        go_wp2
        go_roundw
        case rel => exact ⟨k + 1, by omega, by go_num, HB3.out, by rw [HD.out, if_pos HI.out]; exact HO3.out⟩
        case measure => simp [intOf]; omega
      · rw [decide_eq_false hin]
        rintro e w3 ⟨rfl, hb3⟩
        have R3 := Lib.hid (row_grow (row_new wr (.cells #[.int .i64 ph, .int .i64 pk, .int .i64 pn] 32)) hb3)
        have HB3 := Lib.hid ((HB.out.alloc (.cells #[.int .i64 ph, .int .i64 pk, .int .i64 pn] 32)).trans hb3)
        have HO3 := Lib.hid (owns_grow HOW.out (((Grow.refl wr).alloc _).trans hb3))
        have HI := Lib.hid hin
        clear hb3 hin
        obtain ⟨q0, q1, q2⟩ := cells3 R3.out
        have zq : wr.heap.size < w3.heap.size := (Array.getElem?_eq_some_iff.1 R3.out).1
        go_wp2_with (at_builtin; refine app1 ei_int rfl _ _ rfl HB3.out rfl HO3.out rfl (by simp) rfl (by simp [Value.oneCell']) (by have := HM.out; omega) (by decide) ?_; intro v' w' hown' hb' _)
        go_roundw
        case rel => exact ⟨k + 1, by omega, by go_num, hb', by rw [HD.out, if_neg HI.out]; simpa [intCell] using hown'⟩
        case measure => simp [intOf]; omega
    · have hk2 : k = l.length := by omega
      rw [List.take_of_length_le (by omega)] at hown
      have hln : (dedupE [] l).length ≤ l.length := by have := dedup_len l []; simp at this; omega
      obtain ⟨g, hg1, hg2, hc⟩ := own_sort hown HNE.out (by have := HM.out; omega)
      rw [HSO.out] at hc
      have HC := Lib.hid hc
      have HB := Lib.hid hb
      clear hel hc hown hb
      go_wp2_with fail
      refine HC.out.mono ?_
      rintro e w3 ⟨rfl, hown3, hg3⟩
      have HO3 := Lib.hid hown3
      have HG3 : Hid (Grow w w3) := Lib.hid (HB.out.grown hg3 fun k hk => by obtain rfl := Option.some.inj hk; exact hg2)
      clear hown3 hg3
      go_wp2
      go_ret
      exact ⟨_, rfl, HO3.out, HG3.out⟩
end Go.Proofs.Ytgbhpghgohggcaa

/- Plain: messages as bytes, there and back; one byte turned is found. -/
namespace Go.Proofs.Ytgbhpghgohggcaa
def partBytes (p : Pt) : List UInt8 := numB p.k ++ numB p.n
def msgHead (m : Ms) : List UInt8 := UInt8.ofNat m.kind.toNat :: (numB m.deed ++ (numB m.house ++ (numB m.parts.length ++ m.parts.flatMap partBytes)))
def sealB (b : List UInt8) : List UInt8 := b ++ [UInt8.ofNat (sumB b / 256), UInt8.ofNat (sumB b)]
/-- a right message's bytes -/
def bytesM (m : Ms) : List UInt8 := sealB (msgHead m)
def ms0 : Ms := ⟨0, 0, 0, []⟩
/-- so many numbers, and what is left -/
def getN : Nat → List UInt8 → Sum (List Int × List UInt8) Int
  | 0, b => .inl ([], b)
  | n + 1, b => if (getB b).2.2 = 0 then (match getN n (b.drop (getB b).2.1.toNat) with
      | .inl (xs, r) => .inl ((getB b).1 :: xs, r)
      | .inr e => .inr e) else .inr (getB b).2.2
def pairs (h : Int) : List Int → List Pt
  | k :: n :: l => ⟨h, k, n⟩ :: pairs h l
  | _ => []
def nums (l : List Pt) : List Int := l.flatMap fun p => [p.k, p.n]
def readBody (kind : Int) (l : List UInt8) : Ms × Int :=
  match getN 3 l with
  | .inr e => (ms0, e)
  | .inl (xs, r) =>
    if xs.getD 2 0 < 0 ∨ 4 < xs.getD 2 0 then (ms0, 5) else
    match getN (2 * (xs.getD 2 0).toNat) r with
    | .inr e => (ms0, e)
    | .inl (ys, r') => if r' ≠ [] then (ms0, 2) else
      if wrongM ⟨kind, xs.getD 0 0, xs.getD 1 0, pairs (xs.getD 1 0) ys⟩ = 0 then (⟨kind, xs.getD 0 0, xs.getD 1 0, pairs (xs.getD 1 0) ys⟩, 0)
      else (ms0, wrongM ⟨kind, xs.getD 0 0, xs.getD 1 0, pairs (xs.getD 1 0) ys⟩)
def sumOk (b : List UInt8) : Bool := decide (sumB (b.take (b.length - 2)) = 256 * (b.getD (b.length - 2) 0).toNat + (b.getD (b.length - 1) 0).toNat)
/-- the message of bytes, and what is wrong -/
def readB (b : List UInt8) : Ms × Int :=
  if b.length < 3 then (ms0, 8) else if sumOk b = true then readBody ((b.getD 0 0).toNat : Nat) ((b.take (b.length - 2)).drop 1) else (ms0, 7)
theorem getN_nums : ∀ (xs : List Int) (r : List UInt8), (∀ x ∈ xs, zig x < 128 ^ 6) → getN xs.length (xs.flatMap numB ++ r) = .inl (xs, r)
  | [], r, _ => rfl
  | x :: xs, r, h => by
    have h1 := get_num (n := x) (xs.flatMap numB ++ r) (h x List.mem_cons_self)
    rw [List.flatMap_cons, List.append_assoc, List.length_cons, getN, h1]
    simp only [if_true, Int.toNat_natCast, List.drop_left]
    rw [getN_nums xs r fun y hy => h y (List.mem_cons_of_mem _ hy)]
theorem getN_inv : ∀ (n : Nat) {b : List UInt8} {xs : List Int} {r : List UInt8}, getN n b = .inl (xs, r) → xs.length = n ∧ b = xs.flatMap numB ++ r
  | 0, b, xs, r, h => by
    simp only [getN, Sum.inl.injEq, Prod.mk.injEq] at h
    obtain ⟨rfl, rfl⟩ := h
    exact ⟨rfl, rfl⟩
  | n + 1, b, xs, r, h => by
    rw [getN] at h
    split at h
    · rename_i h0
      cases hn : getN n (b.drop (getB b).2.1.toNat) with
      | inr e => rw [hn] at h; simp at h
      | inl p =>
        obtain ⟨ys, r'⟩ := p
        rw [hn] at h
        simp only [Sum.inl.injEq, Prod.mk.injEq] at h
        obtain ⟨rfl, rfl⟩ := h
        obtain ⟨e1, e2⟩ := getN_inv n hn
        obtain ⟨e3, -, -⟩ := get_bytes (b := b) (x := (getB b).1) (k := (getB b).2.1) (by rw [← h0])
        refine ⟨by rw [List.length_cons, e1], ?_⟩
        rw [List.flatMap_cons, List.append_assoc, ← e2, ← e3, List.take_append_drop]
    · simp at h
theorem nums_bytes : ∀ l : List Pt, l.flatMap partBytes = (nums l).flatMap numB
  | [] => rfl
  | p :: l => by
    show partBytes p ++ l.flatMap partBytes = ([p.k, p.n] ++ nums l).flatMap numB
    rw [nums_bytes l, List.flatMap_append]
    simp [partBytes]
theorem nums_len : ∀ l : List Pt, (nums l).length = 2 * l.length
  | [] => rfl
  | p :: l => by
    show ([p.k, p.n] ++ nums l).length = _
    rw [List.length_append, nums_len l]; simp; omega
theorem pairs_nums {h : Int} : ∀ {l : List Pt}, (∀ p ∈ l, p.h = h) → pairs h (nums l) = l
  | [], _ => rfl
  | p :: l, hp => by
    show (⟨h, p.k, p.n⟩ : Pt) :: pairs h (nums l) = _
    rw [pairs_nums fun q hq => hp q (List.mem_cons_of_mem _ hq), ← hp p List.mem_cons_self]
theorem nums_pairs {h : Int} : ∀ (n : Nat) {ys : List Int}, ys.length = 2 * n → nums (pairs h ys) = ys ∧ (pairs h ys).length = n
  | 0, ys, hl => by
    obtain rfl : ys = [] := List.eq_nil_of_length_eq_zero (by omega)
    exact ⟨rfl, rfl⟩
  | n + 1, ys, hl => by
    match ys, hl with
    | [], hl => simp at hl
    | [x], hl => simp at hl; omega
    | k :: x :: ys, hl =>
      obtain ⟨e1, e2⟩ := nums_pairs (h := h) n (ys := ys) (by simp at hl; omega)
      refine ⟨?_, ?_⟩
      · show [k, x] ++ nums (pairs h ys) = _
        rw [e1]; rfl
      · show (pairs h ys).length + 1 = _
        rw [e2]
theorem zig_lt {n : Int} (h1 : -2199023255552 < n) (h2 : n < 2199023255552) : zig n < 128 ^ 6 := by
  have : (128 : Nat) ^ 6 = 4398046511104 := by decide
  rw [this]
  unfold zig
  split <;> omega
theorem RightM.len {m : Ms} (h : RightM m) : m.parts.length ≤ 4 := by
  by_cases hk : m.kind = 1
  · exact (wrong_ok (h.parts hk).1).2.1
  · rw [h.none hk]; simp
theorem RightM.pts {m : Ms} (h : RightM m) : ∀ p ∈ m.parts, p.h = m.house ∧ 0 ≤ p.k ∧ p.k < 4 ∧ p.n ≤ 1048576 ∧ -1048576 ≤ p.n := by
  by_cases hk : m.kind = 1
  · intro p hp
    have := (wrong_ok (h.parts hk).1).2.2.1 p hp
    exact ⟨(h.parts hk).2 p hp, this.2.2⟩
  · rw [h.none hk]; simp
theorem head_nums (m : Ms) : msgHead m = UInt8.ofNat m.kind.toNat :: ([m.deed, m.house, (m.parts.length : Int)].flatMap numB ++ (nums m.parts).flatMap numB) := by
  unfold msgHead
  rw [nums_bytes]
  simp
theorem read_body {m : Ms} (h : RightM m) (hw : wrongM m = 0) : readBody m.kind ([m.deed, m.house, (m.parts.length : Int)].flatMap numB ++ (nums m.parts).flatMap numB) = (m, 0) := by
  have hl := h.len
  have h1 := getN_nums [m.deed, m.house, (m.parts.length : Int)] ((nums m.parts).flatMap numB) (by
    intro x hx
    have h1 := h.deed
    have h2 := h.house
    simp only [List.mem_cons, List.not_mem_nil, or_false] at hx
    rcases hx with rfl | rfl | rfl <;> exact zig_lt (by omega) (by omega))
  have h2 := getN_nums (nums m.parts) [] (by
    intro x hx
    obtain ⟨p, hp, hx⟩ := List.mem_flatMap.1 hx
    have := h.pts p hp
    simp only [List.mem_cons, List.not_mem_nil, or_false] at hx
    rcases hx with rfl | rfl <;> exact zig_lt (by omega) (by omega))
  rw [nums_len, List.append_nil] at h2
  unfold readBody
  rw [show (3 : Nat) = [m.deed, m.house, (m.parts.length : Int)].length from rfl, h1]
  simp only [List.getD_cons_succ, List.getD_cons_zero]
  rw [if_neg (by omega), Int.toNat_natCast, h2]
  simp only [ne_eq, not_true, if_false]
  rw [pairs_nums fun p hp => (h.pts p hp).1]
  show (if wrongM m = 0 then (m, (0 : Int)) else _) = _
  rw [if_pos hw]
theorem seal_len (b : List UInt8) : (sealB b).length = b.length + 2 := by simp [sealB]
theorem seal_ok (b : List UInt8) : sumOk (sealB b) = true ∧ (sealB b).take ((sealB b).length - 2) = b := by
  have hl := seal_len b
  have ht : (sealB b).take ((sealB b).length - 2) = b := by rw [hl]; simp [sealB]
  refine ⟨?_, ht⟩
  have hs := sumB_lt b
  have e1 : (sealB b).getD ((sealB b).length - 2) 0 = UInt8.ofNat (sumB b / 256) := by rw [hl]; simp [sealB]
  have e2 : (sealB b).getD ((sealB b).length - 1) 0 = UInt8.ofNat (sumB b) := by
    rw [hl, show b.length + 2 - 1 = b.length + 1 by omega]
    simp [sealB, List.getD_eq_getElem?_getD]
  unfold sumOk
  rw [ht, e1, e2, decide_eq_true_eq, ofNat_small (by omega), UInt8.toNat_ofNat']
  omega
theorem ok_seal {b : List UInt8} (hl : ¬ b.length < 3) (h : sumOk b = true) : b = sealB (b.take (b.length - 2)) := by
  unfold sumOk at h
  rw [decide_eq_true_eq] at h
  have hs := sumB_lt (b.take (b.length - 2))
  have h1 := (b.getD (b.length - 2) 0).toNat_lt
  have h2 := (b.getD (b.length - 1) 0).toNat_lt
  unfold sealB
  have e1 : UInt8.ofNat (sumB (b.take (b.length - 2)) / 256) = b.getD (b.length - 2) 0 := by
    apply UInt8.toNat_inj.1
    rw [ofNat_small (by omega)]
    omega
  have e2 : UInt8.ofNat (sumB (b.take (b.length - 2))) = b.getD (b.length - 1) 0 := by
    apply UInt8.toNat_inj.1
    rw [UInt8.toNat_ofNat']
    omega
  rw [e1, e2]
  have e3 : b.drop (b.length - 2) = [b.getD (b.length - 2) 0, b.getD (b.length - 1) 0] := by
    rw [List.drop_eq_getElem_cons (by omega), List.drop_eq_getElem_cons (by omega), List.drop_eq_nil_of_le (by omega)]
    simp only [List.getD_eq_getElem?_getD, List.getElem?_eq_getElem (show b.length - 2 < b.length by omega), List.getElem?_eq_getElem (show b.length - 1 < b.length by omega), Option.getD_some]
    congr 2
    congr 1
    omega
  rw [← e3, List.take_append_drop]
/-- there, and back -/
theorem read_bytes {m : Ms} (hw : wrongM m = 0) : readB (bytesM m) = (m, 0) := by
  have h := right_m.1 hw
  obtain ⟨h1, h2⟩ := seal_ok (msgHead m)
  unfold readB bytesM
  have hp : 0 < (msgHead m).length := by unfold msgHead; simp
  rw [if_neg (by rw [seal_len]; omega), if_pos h1, h2, head_nums]
  rw [List.drop_succ_cons, List.drop_zero]
  have e : ((sealB (UInt8.ofNat m.kind.toNat :: ([m.deed, m.house, (m.parts.length : Int)].flatMap numB ++ (nums m.parts).flatMap numB))).getD 0 0) = UInt8.ofNat m.kind.toNat := by
    unfold sealB; rw [List.cons_append]; rfl
  have hk := h.kind
  rw [e, ofNat_small (by omega), show ((m.kind.toNat : Nat) : Int) = m.kind by omega]
  exact read_body h hw
theorem readBody_inv {kind : Int} {l : List UInt8} {m : Ms} (h : readBody kind l = (m, 0)) : wrongM m = 0 ∧ m.kind = kind ∧ l = [m.deed, m.house, (m.parts.length : Int)].flatMap numB ++ (nums m.parts).flatMap numB := by
  unfold readBody at h
  cases h3 : getN 3 l with
  | inr e =>
    rw [h3] at h
    simp only [Prod.mk.injEq] at h
    obtain ⟨rfl, rfl⟩ := h
    exfalso
    -- an error is not 0
    have : ∀ (n : Nat) (b : List UInt8), getN n b ≠ .inr 0 := by
      intro n
      induction n with
      | zero => intro b h; simp [getN] at h
      | succ n ih =>
        intro b h
        rw [getN] at h
        split at h
        · cases hn : getN n (b.drop (getB b).2.1.toNat) with
          | inr e => rw [hn] at h; simp at h; subst h; exact ih _ hn
          | inl p => rw [hn] at h; simp at h
        · rename_i h0; simp at h; exact h0 h
    exact this _ _ h3
  | inl p =>
    obtain ⟨xs, r⟩ := p
    rw [h3] at h
    simp only at h
    split at h
    · simp at h
    rename_i hn
    cases h4 : getN (2 * (xs.getD 2 0).toNat) r with
    | inr e =>
      rw [h4] at h
      simp only [Prod.mk.injEq] at h
      obtain ⟨rfl, rfl⟩ := h
      exfalso
      have : ∀ (n : Nat) (b : List UInt8), getN n b ≠ .inr 0 := by
        intro n
        induction n with
        | zero => intro b h; simp [getN] at h
        | succ n ih =>
          intro b h
          rw [getN] at h
          split at h
          · cases hn : getN n (b.drop (getB b).2.1.toNat) with
            | inr e => rw [hn] at h; simp at h; subst h; exact ih _ hn
            | inl p => rw [hn] at h; simp at h
          · rename_i h0; simp at h; exact h0 h
      exact this _ _ h4
    | inl p =>
      obtain ⟨ys, r'⟩ := p
      rw [h4] at h
      simp only at h
      split at h
      · simp at h
      rename_i hr
      split at h
      · rename_i hw
        simp only [Prod.mk.injEq, and_true] at h
        obtain ⟨e1, e2⟩ := getN_inv 3 h3
        obtain ⟨e3, e4⟩ := getN_inv _ h4
        obtain rfl : r' = [] := Classical.byContradiction hr
        obtain ⟨e5, e6⟩ := nums_pairs (h := xs.getD 1 0) (xs.getD 2 0).toNat e3
        subst h
        refine ⟨hw, rfl, ?_⟩
        match xs, e1 with
        | [d, q, n], _ =>
          simp only [List.getD_cons_succ, List.getD_cons_zero] at *
          rw [e2, e4, e5, e6, List.append_nil, show ((n.toNat : Nat) : Int) = n by omega]
      · rename_i hw
        simp only [Prod.mk.injEq] at h
        exact absurd h.2 hw
/-- bytes that are read are their own -/
theorem bytes_read {b : List UInt8} {m : Ms} (h : readB b = (m, 0)) : wrongM m = 0 ∧ bytesM m = b := by
  unfold readB at h
  split at h
  · simp at h
  rename_i hl
  split at h
  · rename_i hs
    obtain ⟨h1, h2, h3⟩ := readBody_inv h
    refine ⟨h1, ?_⟩
    conv => rhs; rw [ok_seal hl hs]
    unfold bytesM
    congr 1
    rw [head_nums, ← h3, h2]
    generalize ht : b.take (b.length - 2) = t
    match t, ht with
    | [], ht =>
      have := congrArg List.length ht
      simp at this
      omega
    | c :: t, ht =>
      have : b.getD 0 0 = c := by
        match b, hl with
        | [], hl => simp at hl
        | x :: b, hl =>
          have h5 : (x :: b).length - 2 = ((x :: b).length - 3) + 1 := by omega
          rw [h5, List.take_succ_cons] at ht
          simpa using (List.cons.inj ht).1
      rw [this]
      simp
  · simp at h
/-- one byte that is another one is found -/
theorem byte_law {m : Ms} {i : Nat} {c : UInt8} (hi : i < (bytesM m).length) (hne : (bytesM m)[i] ≠ c) : readB ((bytesM m).set i c) = (ms0, 7) := by
  obtain ⟨h1, h2⟩ := seal_ok (msgHead m)
  have hl : (bytesM m).length = (msgHead m).length + 2 := seal_len _
  have hp : 0 < (msgHead m).length := by unfold msgHead; simp
  unfold readB
  rw [if_neg (by rw [List.length_set]; omega), if_neg]
  intro hok
  have hs := ok_seal (b := (bytesM m).set i c) (by rw [List.length_set]; omega) hok
  have hb : bytesM m = sealB (msgHead m) := rfl
  rw [List.length_set, hl, show (msgHead m).length + 2 - 2 = (msgHead m).length by omega] at hs
  by_cases hlt : i < (msgHead m).length
  · have e1 : ((bytesM m).set i c).take (msgHead m).length = (msgHead m).set i c := by
      rw [hb, sealB, List.set_append_left _ _ hlt, List.take_left' (by simp)]
    rw [e1] at hs
    have e2 : ((bytesM m).set i c).drop (msgHead m).length = [UInt8.ofNat (sumB (msgHead m) / 256), UInt8.ofNat (sumB (msgHead m))] := by
      rw [hb, sealB, List.set_append_left _ _ hlt, List.drop_left' (by simp)]
    have e3 := congrArg (List.drop (msgHead m).length) hs
    rw [e2, sealB, List.drop_left' (by simp)] at e3
    simp only [List.cons.injEq, and_true] at e3
    obtain ⟨e4, e5⟩ := e3
    have e4 := congrArg UInt8.toNat e4
    have e5 := congrArg UInt8.toNat e5
    have l1 := sumB_lt (msgHead m)
    have l2 := sumB_lt ((msgHead m).set i c)
    rw [ofNat_small (by omega), ofNat_small (by omega)] at e4
    rw [UInt8.toNat_ofNat', UInt8.toNat_ofNat'] at e5
    refine sumB_set (msgHead m) 5 i c hlt (by decide) ?_ (show sumB ((msgHead m).set i c) = sumB (msgHead m) by omega)
    intro e
    apply hne
    rw [← e]
    simp only [hb, sealB]
    rw [List.getElem_append_left hlt]
  · have e1 : ((bytesM m).set i c).take (msgHead m).length = msgHead m := by
      rw [List.take_set_of_le (by omega), hb, sealB, List.take_left' rfl]
    rw [e1, ← hb] at hs
    apply hne
    have := congrArg (fun l : List UInt8 => l[i]?) hs
    rw [List.getElem?_set_self hi, List.getElem?_eq_getElem hi] at this
    exact (Option.some.inj this).symm
theorem bytes_len (m : Ms) : 6 ≤ (bytesM m).length := by
  unfold bytesM
  rw [seal_len]
  unfold msgHead numB
  have h1 := varint_pos (zig m.deed)
  have h2 := varint_pos (zig m.house)
  have h3 := varint_pos (zig m.parts.length)
  simp only [List.length_cons, List.length_append]
  omega
end Go.Proofs.Ytgbhpghgohggcaa

/- Walks: a message as bytes, by the program. -/
namespace Go.Proofs.Ytgbhpghgohggcaa
open Go.RowKit
theorem OwnB.grow {w w' : World} {base : Nat} {v : Value} {b : List UInt8} (h : OwnB w base v b) (hg : Grow w w') : OwnB w' base v b := owns_grow h hg
theorem OwnB.bts {w : World} {base : Nat} {v : Value} {b : List UInt8} (h : OwnB w base v b) : Bts w.cell? v b := Bts.of_own h
/-- a row that is another one's is as it was -/
theorem MoreB.row {w w' : World} {v v' : Value} {B : Nat} {o : Obj} (h : MoreB w w' v v') (hr : w.heap[B]? = some o) (hne : ∀ k, v.ownBlock = some k → B ≠ k) : w'.heap[B]? = some o :=
  row_by hr h.1 (fun e => hne B e.symm rfl)
theorem numsB_len : ∀ {xs : List Int}, (∀ x ∈ xs, I64 x) → (xs.flatMap numB).length ≤ 10 * xs.length
  | [], _ => by simp
  | x :: xs, h => by
    obtain ⟨h0, h1⟩ := i64_bounds (h x List.mem_cons_self)
    have h2 := numB_len h0 h1
    have h3 := numsB_len (xs := xs) fun y hy => h y (List.mem_cons_of_mem _ hy)
    rw [List.flatMap_cons, List.length_append, List.length_cons]
    omega
theorem flat_snoc {α : Type} (f : α → List UInt8) {l : List α} {k : Nat} (h : k < l.length) : (l.take (k + 1)).flatMap f = (l.take k).flatMap f ++ f l[k] := by
  rw [List.take_succ_eq_append_getElem h, List.flatMap_append]
  simp
theorem i64_of {n : Int} (h1 : -9223372036854775808 ≤ n) (h2 : n ≤ 9223372036854775807) : I64 n := by
  unfold I64
  simp [Lit.wf, IntKind.min, IntKind.max, IntKind.signed, IntKind.bits]; omega
theorem kind_byte {k : Int} (h : 0 ≤ k ∧ k < 256) : k = ((UInt8.ofNat k.toNat).toNat : Int) := by
  rw [UInt8.toNat_ofNat']
  omega
theorem partBytes_len {p : Pt} (h1 : I64 p.k) (h2 : I64 p.n) : (partBytes p).length ≤ 20 := by
  unfold partBytes
  rw [List.length_append]
  have a := numB_len (i64_bounds h1).1 (i64_bounds h1).2
  have b := numB_len (i64_bounds h2).1 (i64_bounds h2).2
  omega
theorem partsBytes_len : ∀ {l : List Pt}, PtsOk l → (l.flatMap partBytes).length ≤ 20 * l.length
  | [], _ => by simp
  | p :: l, h => by
    have h2 := partBytes_len (h p List.mem_cons_self).2.1 (h p List.mem_cons_self).2.2
    have h3 := partsBytes_len (l := l) fun q hq => h q (List.mem_cons_of_mem _ hq)
    rw [List.flatMap_cons, List.length_append, List.length_cons]
    omega
theorem two_bytes {x y : Int} {z1 z2 : UInt8} (h1 : x = (z1.toNat : Int)) (h2 : y = (z2.toNat : Int)) : [Value.int .u8 x, Value.int .u8 y] = [z1, z2].flatMap byteCell := by
  rw [h1, h2]; rfl
theorem seal_bytes (b : List UInt8) : [Value.int .u8 ((sumB b : Int) / 256 % 256), Value.int .u8 ((sumB b : Int) % 256)] = [UInt8.ofNat (sumB b / 256), UInt8.ofNat (sumB b)].flatMap byteCell := by
  have h1 : (sumB b : Int) / 256 % 256 = ((UInt8.ofNat (sumB b / 256)).toNat : Int) := by rw [byte_wrap]; omega
  have h2 : (sumB b : Int) % 256 = ((UInt8.ofNat (sumB b)).toNat : Int) := by rw [byte_wrap]; omega
  rw [h1, h2]
  rfl
set_option maxRecDepth 100000 in
set_option maxHeartbeats 2000000 in
theorem wire_bytes {v : Value} {m : Ms} (w : World) (hv : Of Ty.ms w.cell? v m) (hk : 0 ≤ m.kind ∧ m.kind < 256) (hl : m.parts.length ≤ 4) :
    Calls Try.prog 60 #[v] w fun e w' => ∃ v', e = .returned v' ∧ OwnB w' w.heap.size v' (bytesM m) ∧ Grow w w' := by
  obtain ⟨ap, cp, rfl⟩ := hv.ms_form
  obtain ⟨hp, ik, id', ih⟩ := hv.ms_parts
  have hok := Pts.ok hp
  have HKB := Lib.hid (kind_byte hk)
  have HI : Hid (∀ x ∈ [m.deed, m.house, (m.parts.length : Int)], I64 x) := fun x hx => by
    simp only [List.mem_cons, List.not_mem_nil, or_false] at hx
    rcases hx with rfl | rfl | rfl
    · exact id'
    · exact ih
    · exact i64_of (by omega) (by omega)
  have HNL := Lib.hid (fun k => numsB_len (xs := [m.deed, m.house, (m.parts.length : Int)].take k) fun x hx => HI.out x (List.mem_of_mem_take hx))
  have HPL := Lib.hid (fun k => partsBytes_len (l := m.parts.take k) fun p hp => hok p (List.mem_of_mem_take hp))
  have HB0 : Hid (OwnB (((w.alloc (.cells #[.int .i64 m.kind, .int .i64 m.deed, .int .i64 m.house, .slice ap m.parts.length cp] 39)).alloc (.cells #[.int .u8 m.kind] 5)).alloc (.cells #[.int .i64 m.deed, .int .i64 m.house, .int .i64 m.parts.length] 3)) w.heap.size (.slice (some ⟨w.heap.size + 1, 0, none⟩) 1 1) [UInt8.ofNat m.kind.toNat]) := Lib.hid (by
    have h := World.ownsRow_lit (base := w.heap.size) (e := 5) (size := 1) (w.alloc (.cells #[.int .i64 m.kind, .int .i64 m.deed, .int .i64 m.house, .slice ap m.parts.length cp] 39)) #[.int .u8 m.kind] 1 (by simp) (by decide) rfl
    have e : (#[.int .u8 m.kind] : Array Value).toList = [UInt8.ofNat m.kind.toNat].flatMap byteCell := by
      show [Value.int .u8 m.kind] = [Value.int .u8 _]
      rw [← HKB.out]
    rw [e] at h
    have h2 := OwnB.grow (b := [UInt8.ofNat m.kind.toNat]) h (w' := (((w.alloc (.cells #[.int .i64 m.kind, .int .i64 m.deed, .int .i64 m.house, .slice ap m.parts.length cp] 39)).alloc (.cells #[.int .u8 m.kind] 5)).alloc (.cells #[.int .i64 m.deed, .int .i64 m.house, .int .i64 m.parts.length] 3))) ((Grow.refl _).alloc _)
    simpa using h2)

  have HR0 : Hid ((((w.alloc (.cells #[.int .i64 m.kind, .int .i64 m.deed, .int .i64 m.house, .slice ap m.parts.length cp] 39)).alloc (.cells #[.int .u8 m.kind] 5)).alloc (.cells #[.int .i64 m.deed, .int .i64 m.house, .int .i64 m.parts.length] 3)).heap[w.heap.size]? = some (.cells #[.int .i64 m.kind, .int .i64 m.deed, .int .i64 m.house, .slice ap m.parts.length cp] 39 (0, 0))) := Lib.hid (heap_later (heap_later (row_new _ _) _) _)
  have HR2 : Hid ((((w.alloc (.cells #[.int .i64 m.kind, .int .i64 m.deed, .int .i64 m.house, .slice ap m.parts.length cp] 39)).alloc (.cells #[.int .u8 m.kind] 5)).alloc (.cells #[.int .i64 m.deed, .int .i64 m.house, .int .i64 m.parts.length] 3)).heap[w.heap.size + 1 + 1]? = some (.cells #[.int .i64 m.deed, .int .i64 m.house, .int .i64 m.parts.length] 3 (0, 0))) := Lib.hid (by simpa using row_new ((w.alloc (.cells #[.int .i64 m.kind, .int .i64 m.deed, .int .i64 m.house, .slice ap m.parts.length cp] 39)).alloc (.cells #[.int .u8 m.kind] 5)) (.cells #[.int .i64 m.deed, .int .i64 m.house, .int .i64 m.parts.length] 3))
  have HG3 : Hid (Grow w (((w.alloc (.cells #[.int .i64 m.kind, .int .i64 m.deed, .int .i64 m.house, .slice ap m.parts.length cp] 39)).alloc (.cells #[.int .u8 m.kind] 5)).alloc (.cells #[.int .i64 m.deed, .int .i64 m.house, .int .i64 m.parts.length] 3))) := Lib.hid ((((Grow.refl w).alloc _).alloc _).alloc _)
  have HSZ : Hid (w.heap.size + 3 ≤ ((((w.alloc (.cells #[.int .i64 m.kind, .int .i64 m.deed, .int .i64 m.house, .slice ap m.parts.length cp] 39)).alloc (.cells #[.int .u8 m.kind] 5)).alloc (.cells #[.int .i64 m.deed, .int .i64 m.house, .int .i64 m.parts.length] 3))).heap.size) := Lib.hid (by simp)
  have HEL := Lib.hid hp
  have HM : Hid (UInt8.ofNat m.kind.toNat :: (([m.deed, m.house, (m.parts.length : Int)].flatMap numB) ++ m.parts.flatMap partBytes) = msgHead m) := Lib.hid (by unfold msgHead; simp)
  obtain ⟨hk0, hk1⟩ := hk
  clear hv ik id' ih hok
  go_enter Try.func60, Try.ntmps60
  go_wp2
  obtain ⟨w3, hw3⟩ : ∃ x : World, x = (((w.alloc (.cells #[.int .i64 m.kind, .int .i64 m.deed, .int .i64 m.house, .slice ap m.parts.length cp] 39)).alloc (.cells #[.int .u8 m.kind] 5)).alloc (.cells #[.int .i64 m.deed, .int .i64 m.house, .int .i64 m.parts.length] 3)) := ⟨_, rfl⟩
  rw [← hw3] at HB0 HR0 HR2 HG3 HSZ ⊢
  clear hw3
  go_loopw [3, 22] (fun bv i wr => ∃ k : Nat, k ≤ 3 ∧ i = .int .i64 k ∧ OwnB wr w.heap.size bv (UInt8.ofNat m.kind.toNat :: ([m.deed, m.house, (m.parts.length : Int)].take k).flatMap numB) ∧ MoreB w3 wr (.slice (some ⟨w.heap.size + 1, 0, none⟩) 1 1) bv) (fun _ i _ => 3 - (intOf i).toNat)
  case atStart => exact ⟨0, by omega, rfl, HB0.out, MoreB.refl _ _⟩
  case round =>
    obtain ⟨k, hk', rfl, hown, hM⟩ := hrel
    obtain ⟨a1, k1, rfl⟩ := owns_form hown
    have HO := Lib.hid hown
    have HMR := Lib.hid hM
    by_cases hlt : k < 3
    · obtain ⟨x, hx⟩ : ∃ x, [m.deed, m.house, (m.parts.length : Int)][k]? = some x := ⟨_, List.getElem?_eq_getElem hlt⟩
      have HX := Lib.hid (HI.out x (List.mem_of_getElem? hx))
      have HN := Lib.hid (show UInt8.ofNat m.kind.toNat :: ([m.deed, m.house, (m.parts.length : Int)].take (k + 1)).flatMap numB = (UInt8.ofNat m.kind.toNat :: ([m.deed, m.house, (m.parts.length : Int)].take k).flatMap numB) ++ numB x by
        rw [flat_snoc numB hlt, List.cons_append]
        congr 2
        rw [List.getElem?_eq_getElem hlt] at hx
        exact congrArg numB (Option.some.inj hx))
      have r2 := hM.row HR2.out (fun q hq => by
        obtain rfl : w.heap.size + 1 = q := by simpa [Value.ownBlock] using hq
        omega)
      have hc : wr.cell? ⟨w.heap.size + 1 + 1, k, none⟩ = some (.int .i64 x) := by
        simp only [World.cell?, r2]
        match k, hlt, hx with
        | 0, _, hx => simp at hx ⊢; exact hx
        | 1, _, hx => simp at hx ⊢; exact hx
        | 2, _, hx => simp at hx ⊢; exact hx
      have hnl := HNL.out k
      have hlk : ([m.deed, m.house, (m.parts.length : Int)].take k).length ≤ 3 := by rw [List.length_take]; simp; omega
      have hlb : (UInt8.ofNat m.kind.toNat :: ([m.deed, m.house, (m.parts.length : Int)].take k).flatMap numB).length + 10 ≤ 140737488355328 := by rw [List.length_cons]; omega
      have HLB := Lib.hid hlb
      clear hown hM hx r2 hnl hlk hlb
      generalize UInt8.ofNat m.kind.toNat :: ([m.deed, m.house, (m.parts.length : Int)].take k).flatMap numB = pre at *
      go_wp2_with fail
      refine (wire_number (base := w.heap.size) wr HO.out (by have := HMR.out.1.size; have := HSZ.out; omega) HX.out HLB.out).mono ?_
      rintro e w5 ⟨v5, rfl, ho5, hm5⟩
      have HO5 := Lib.hid ho5
      have HM5 := Lib.hid (HMR.out.trans hm5)
      clear ho5 hm5
      go_wp2
      go_roundw
      case rel => exact ⟨k + 1, by omega, by go_num, by rw [HN.out]; exact HO5.out, HM5.out⟩
      case measure => simp [intOf]; omega
    · obtain rfl : k = 3 := by omega
      rw [show ((3 : Nat) : Int) = 3 from rfl]
      have hb : Grow w wr := hM.all HG3.out (fun q hq => by
        obtain rfl : w.heap.size + 1 = q := by simpa [Value.ownBlock] using hq
        omega)
      have r0 := hM.row HR0.out (fun q hq => by
        obtain rfl : w.heap.size + 1 = q := by simpa [Value.ownBlock] using hq
        omega)
      obtain ⟨wo, rfl⟩ : ∃ x : World, x = wr := ⟨_, rfl⟩
      obtain ⟨c0, c1, c2, c3⟩ := cells4 r0
      have z0 : w.heap.size < wo.heap.size := (Array.getElem?_eq_some_iff.1 r0).1
      have HBO := Lib.hid hb
      have hnl := HNL.out 3
      have HBL : Hid ((UInt8.ofNat m.kind.toNat :: ([m.deed, m.house, (m.parts.length : Int)].take 3).flatMap numB).length ≤ 31) := Lib.hid (by rw [List.length_cons]; have : ([m.deed, m.house, (m.parts.length : Int)].take 3).length = 3 := rfl; omega)
      have HM2 : Hid ((UInt8.ofNat m.kind.toNat :: ([m.deed, m.house, (m.parts.length : Int)].take 3).flatMap numB) ++ m.parts.flatMap partBytes = msgHead m) := Lib.hid (by rw [← HM.out]; rfl)
      obtain ⟨ap', cp', he, h1, h2, -, hel⟩ := HEL.out
      obtain ⟨rfl, rfl⟩ : ap = ap' ∧ cp = cp' := by simpa using he
      unfold maxLen at h2
      clear hown hM r0 hb hnl HMR he HM
      generalize UInt8.ofNat m.kind.toNat :: ([m.deed, m.house, (m.parts.length : Int)].take 3).flatMap numB = b0 at *
      go_wp2
      go_loopw [3, 33] (fun bv i wr => ∃ k : Nat, k ≤ m.parts.length ∧ i = .int .i64 k ∧ Grow w wr ∧ OwnB wr w.heap.size bv (b0 ++ (m.parts.take k).flatMap partBytes)) (fun _ i _ => m.parts.length - (intOf i).toNat)
      case atStart => exact ⟨0, by omega, rfl, HBO.out, by simpa using HO.out⟩
      case round =>
        obtain ⟨k, hk', rfl, hb, hown⟩ := hrel
        obtain ⟨a2, k2, rfl⟩ := owns_form hown
        by_cases hlt : k < m.parts.length
        · obtain ⟨b, o, rfl, d0, d1, d2, -, i1, i2⟩ := Pts.at_ hel k hlt
          replace d0 := hb.sub _ _ d0
          replace d1 := hb.sub _ _ d1
          replace d2 := hb.sub _ _ d2
          have HN := Lib.hid (show b0 ++ (m.parts.take (k + 1)).flatMap partBytes = (b0 ++ (m.parts.take k).flatMap partBytes ++ numB m.parts[k].k) ++ numB m.parts[k].n by
            rw [flat_snoc partBytes hlt]
            simp [partBytes])
          have hlk : (m.parts.take k).length ≤ 4 := by rw [List.length_take]; omega
          have hln : (b0 ++ (m.parts.take k).flatMap partBytes).length ≤ 131 := by
            have := HPL.out k
            have := HBL.out
            rw [List.length_append]; omega
          have HLN := Lib.hid hln
          have HI1 := Lib.hid i1
          have HI2 := Lib.hid i2
          have HOW := Lib.hid hown
          have HB := Lib.hid hb
          clear hel i1 i2 hlk hln hown hb c0 c1 c2 c3
          generalize b0 ++ (m.parts.take k).flatMap partBytes = pre at *
          generalize m.parts[k] = p at *
          obtain ⟨ph, pk, pn⟩ := p
          simp only at d0 d1 d2 HI1 HI2 HN
          have RP := Lib.hid (row_new wr (.cells #[.int .i64 ph, .int .i64 pk, .int .i64 pn] 32))
          have HOA := Lib.hid (HOW.out.grow ((Grow.refl wr).alloc (.cells #[.int .i64 ph, .int .i64 pk, .int .i64 pn] 32)))
          have HGA : Hid (Grow w (wr.alloc (.cells #[.int .i64 ph, .int .i64 pk, .int .i64 pn] 32))) := Lib.hid (HB.out.alloc _)
          have HWZ : Hid (∀ q, (Value.slice a2 pre.length k2).ownBlock = some q → q < wr.heap.size) := Lib.hid (fun q hq => (HOW.out.lt q hq).2)
          go_wp2
          obtain ⟨wa, hwa⟩ : ∃ x : World, x = wr.alloc (.cells #[.int .i64 ph, .int .i64 pk, .int .i64 pn] 32) := ⟨_, rfl⟩
          rw [← hwa] at RP HOA HGA ⊢
          have HZA : Hid (wa.heap.size = wr.heap.size + 1) := Lib.hid (by rw [hwa]; simp)
          clear hwa

          refine but_start (fun w' => w'.cell? ⟨wr.heap.size, 1, none⟩ = some (.int .i64 pk) ∧ w'.cell? ⟨wr.heap.size, 2, none⟩ = some (.int .i64 pn)) 7 (by kernel_rfl) ?_
          obtain ⟨wd, hWd⟩ : ∃ x : World, x = wa.drew := ⟨_, rfl⟩
          rw [← hWd]
          have GD : Grow wa wd := by rw [hWd]; exact (Grow.refl _).drew
          have zD : wa.heap.size = wd.heap.size := by rw [hWd]; rfl
          have ZD := Lib.hid zD
          clear hWd zD
          refine but_take (i := 0) (v := ?_) 10 rfl (by kernel_rfl) (by kernel_rfl) (by kernel_rfl) (by kernel_rfl) (by kernel_rfl) (fun _ _ _ h => h) (⟨(cells3 (row_grow RP.out GD)).2.1, (cells3 (row_grow RP.out GD)).2.2⟩) (Or.inl ⟨by rfl, ?_⟩) ?_
          rotate_left
          · (intro w' hSw; (try dsimp only at hSw); obtain ⟨hs0, hs1⟩ := hSw; go_simp <;> with_reducible rfl)
          try simp only [Act.put, List.getElem_toArray, List.getElem_cons_zero, List.setIfInBounds_toArray, List.set_cons_zero, List.set_cons_succ]
          refine but_take (i := 1) (v := ?_) 10 rfl (by kernel_rfl) (by kernel_rfl) (by kernel_rfl) (by kernel_rfl) (by kernel_rfl) (fun _ _ _ h => h) (⟨(cells3 (row_grow RP.out GD)).2.1, (cells3 (row_grow RP.out GD)).2.2⟩) (Or.inl ⟨by rfl, ?_⟩) ?_
          rotate_left
          · (intro w' hSw; (try dsimp only at hSw); obtain ⟨hs0, hs1⟩ := hSw; go_simp <;> with_reducible rfl)
          try simp only [Act.put, List.getElem_toArray, List.getElem_cons_succ, List.getElem_cons_zero, List.setIfInBounds_toArray, List.set_cons_zero, List.set_cons_succ]
          refine but_take (i := 2) (v := ?_) 10 rfl (by kernel_rfl) (by kernel_rfl) (by kernel_rfl) (by kernel_rfl) (by kernel_rfl) (fun _ _ _ h => h) (⟨(cells3 (row_grow RP.out GD)).2.1, (cells3 (row_grow RP.out GD)).2.2⟩) (Or.inl ⟨by rfl, ?_⟩) ?_
          rotate_left
          · (intro w' hSw; (try dsimp only at hSw); obtain ⟨hs0, hs1⟩ := hSw; go_simp <;> with_reducible rfl)
          try simp only [Act.put, List.getElem_toArray, List.getElem_cons_succ, List.getElem_cons_zero, List.setIfInBounds_toArray, List.set_cons_zero, List.set_cons_succ]
          refine but_take (i := 4) (v := ?_) 10 rfl (by kernel_rfl) (by kernel_rfl) (by kernel_rfl) (by kernel_rfl) (by kernel_rfl) (fun _ _ _ h => h) (⟨(cells3 (row_grow RP.out GD)).2.1, (cells3 (row_grow RP.out GD)).2.2⟩) (Or.inl ⟨by rfl, ?_⟩) ?_
          rotate_left
          · (intro w' hSw; (try dsimp only at hSw); obtain ⟨hs0, hs1⟩ := hSw; go_simp <;> with_reducible rfl)
          try simp only [Act.put, List.getElem_toArray, List.getElem_cons_succ, List.getElem_cons_zero, List.setIfInBounds_toArray, List.set_cons_zero, List.set_cons_succ]
          refine but_take (i := 5) (v := ?_) 10 rfl (by kernel_rfl) (by kernel_rfl) (by kernel_rfl) (by kernel_rfl) (by kernel_rfl) (fun _ _ _ h => h) (⟨(cells3 (row_grow RP.out GD)).2.1, (cells3 (row_grow RP.out GD)).2.2⟩) (Or.inl ⟨by rfl, ?_⟩) ?_
          rotate_left
          · (intro w' hSw; (try dsimp only at hSw); obtain ⟨hs0, hs1⟩ := hSw; go_simp <;> with_reducible rfl)
          try simp only [Act.put, List.getElem_toArray, List.getElem_cons_succ, List.getElem_cons_zero, List.setIfInBounds_toArray, List.set_cons_zero, List.set_cons_succ]
          refine but_one (i := 3) (by kernel_rfl) rfl ?_
          intro K HK'
          have HK := Lib.hid HK'
          clear HK'
          skip
          try simp only [List.getElem_toArray, List.getElem_cons_succ, List.getElem_cons_zero]
          go_simp
          go_at_call 62
          refine (wire_number (base := w.heap.size) wd (HOA.out.grow GD) (by have := (HGA.out.trans GD).size; omega) HI1.out (by have := HLN.out; omega)).mono ?_
          rintro e w4 ⟨v4, rfl, ho4, hm4⟩
          obtain ⟨a4, k4, rfl⟩ := owns_form ho4
          have R4 := Lib.hid (hm4.row (row_grow RP.out GD) (fun q hq => by have := HWZ.out q hq; omega))
          have G4 := Lib.hid (hm4.all (HGA.out.trans GD) (fun q hq => (HOA.out.lt q hq).1))
          have HO4 := Lib.hid ho4
          have HW4 : Hid (∀ q, (Value.slice a4 (pre ++ numB pk).length k4).ownBlock = some q → q ≠ wr.heap.size) := Lib.hid (fun q hq => by
            have hz := HZA.out; have hz2 := GD.size
            rcases hm4.2 with e | ⟨g, e, hg⟩
            · rw [e] at hq; have := HWZ.out q hq; omega
            · rw [e] at hq; obtain rfl := Option.some.inj hq; omega)
          have HL4 : Hid ((pre ++ numB pk).length + 10 ≤ 140737488355328) := Lib.hid (by have := numB_len (i64_bounds HI1.out).1 (i64_bounds HI1.out).2; have := HLN.out; rw [List.length_append]; omega)
          clear ho4 hm4
          generalize pre ++ numB pk = pre4 at *
          refine HK.out _ _ ⟨fun _ => ⟨(cells3 R4.out).2.1, (cells3 R4.out).2.2⟩, ?_⟩
          clear HK K
          try simp only [Act.put, List.getElem_toArray, List.getElem_cons_succ, List.getElem_cons_zero, List.setIfInBounds_toArray, List.set_cons_zero, List.set_cons_succ]
          refine but_one (i := 6) (by kernel_rfl) rfl ?_
          intro K HK'
          have HK := Lib.hid HK'
          clear HK'
          skip
          try simp only [List.getElem_toArray, List.getElem_cons_succ, List.getElem_cons_zero]
          go_simp
          go_at_call 62
          refine (wire_number (base := w.heap.size) w4 HO4.out (by have := G4.out.size; omega) HI2.out HL4.out).mono ?_
          rintro e w6 ⟨v6, rfl, ho6, hm6⟩
          obtain ⟨a6, k6, rfl⟩ := owns_form ho6
          have R6 := Lib.hid (hm6.row R4.out (fun q hq e => HW4.out q hq e.symm))
          have G6 := Lib.hid (hm6.all G4.out (fun q hq => (HO4.out.lt q hq).1))
          have HO6 := Lib.hid ho6
          clear ho6 hm6
          generalize pre4 ++ numB pn = pre6 at *
          refine HK.out _ _ ⟨fun _ => ⟨(cells3 R6.out).2.1, (cells3 R6.out).2.2⟩, ?_⟩
          clear HK K
          try simp only [Act.put, List.getElem_toArray, List.getElem_cons_succ, List.getElem_cons_zero, List.setIfInBounds_toArray, List.set_cons_zero, List.set_cons_succ]
          refine but_one (i := 7) (by kernel_rfl) rfl ?_
          intro K HK'
          have HK := Lib.hid HK'
          clear HK'
          skip
          try simp only [List.getElem_toArray, List.getElem_cons_succ, List.getElem_cons_zero]
          go_simp
          refine HK.out _ _ ⟨fun h => absurd rfl h, ?_⟩
          clear HK K
          try simp only [Act.put, List.getElem_toArray, List.getElem_cons_succ, List.getElem_cons_zero, List.setIfInBounds_toArray, List.set_cons_zero, List.set_cons_succ]
          refine but_done (by kernel_rfl) ?_
          go_wp2
          go_roundw
          case rel => exact ⟨k + 1, by omega, by go_num, G6.out, by rw [HN.out]; exact HO6.out⟩
          case measure => simp [intOf]; omega
        · rw [List.take_of_length_le (by omega), HM2.out] at hown ⊢
          have HOW := Lib.hid hown
          have HB := Lib.hid hb
          have HLH : Hid ((msgHead m).length ≤ 111) := Lib.hid (by
            rw [← HM2.out, List.length_append]
            have := HPL.out m.parts.length
            rw [List.take_of_length_le (Nat.le_refl _)] at this
            have := HBL.out
            omega)
          obtain ⟨z1, hz1⟩ : ∃ z, z = UInt8.ofNat (sumB (msgHead m) / 256) := ⟨_, rfl⟩
          obtain ⟨z2, hz2⟩ : ∃ z, z = UInt8.ofNat (sumB (msgHead m)) := ⟨_, rfl⟩
          have HS1 : Hid ((sumB (msgHead m) : Int) / 256 % 256 = (z1.toNat : Int)) := Lib.hid (by rw [hz1, byte_wrap]; omega)
          have HS2 : Hid ((sumB (msgHead m) : Int) % 256 = (z2.toNat : Int)) := Lib.hid (by rw [hz2, byte_wrap]; omega)
          have HBM : Hid (msgHead m ++ [z1, z2] = bytesM m) := Lib.hid (by rw [hz1, hz2]; rfl)
          have hs1 := sumB_lt (msgHead m)
          have HSUM := Lib.hid (fun (W : World) (hW : Grow wr W) => wire_sum W ((HOW.out.grow hW).bts))
          clear hel hown hb hz1 hz2
          generalize sumB (msgHead m) = s at *
          generalize msgHead m = hd at *
          go_wp2_with fail
          refine (HSUM.out _ (Grow.refl _)).mono ?_
          rintro e w7 ⟨rfl, hb7⟩
          have HO7 := Lib.hid (HOW.out.grow hb7)
          have HB7 := Lib.hid (HB.out.trans hb7)
          have hsz7 : w.heap.size ≤ w7.heap.size := HB7.out.size
          clear hb7
          go_wp2_with (at_builtin; refine appB rfl _ _ rfl rfl HO7.out hsz7 rfl rfl [z1, z2] ?e0 rfl ?e1 ?_)
          case e0 => exact two_bytes (by first | exact HS1.out | (rw [← HS1.out]; omega)) (by first | exact HS2.out | (rw [← HS2.out]; omega))
          case e1 => have := HLH.out; simp; omega
          intro v9 w9 ho9 hm9
          have HO9 := Lib.hid ho9
          have HB9 := Lib.hid (hm9.all HB7.out (fun q hq => (HO7.out.lt q hq).1))
          clear ho9 hm9
          go_wp2
          go_ret
          exact ⟨_, rfl, by rw [← HBM.out]; exact HO9.out, HB9.out⟩
end Go.Proofs.Ytgbhpghgohggcaa

/- Walks: the number that bytes begin with. -/
namespace Go.Proofs.Ytgbhpghgohggcaa
open Go.RowKit
theorem get_more {b : List UInt8} {k u : Nat} {X : Int × Int × Int} (h : getGo k u (b.drop k) = X) (hk : k < b.length) : (if 6 ≤ k then ((0 : Int), (0 : Int), (3 : Int)) else if 128 ≤ b[k].toNat then getGo (k + 1) (u + b[k].toNat % 128 * 128 ^ k) (b.drop (k + 1))
    else if 0 < k ∧ b[k].toNat = 0 then (0, 0, 2) else (zag (u + b[k].toNat % 128 * 128 ^ k), (k : Int) + 1, 0)) = X := by
  rw [List.drop_eq_getElem_cons hk, getGo] at h
  exact h
theorem get_end {b : List UInt8} {k u : Nat} {X : Int × Int × Int} (h : getGo k u (b.drop k) = X) (hk : ¬ k < b.length) : ((0 : Int), (0 : Int), (8 : Int)) = X := by
  rw [List.drop_of_length_le (by omega), getGo] at h
  exact h
theorem ret_3 {x y z : Int} {X : Int × Int × Int} (h : (x, y, z) = X) : Ending.returned (.tuple #[.int .i64 x, .int .i64 y, .int .i64 z]) = .returned (.tuple #[.int .i64 X.1, .int .i64 X.2.1, .int .i64 X.2.2]) := by rw [← h]
theorem get_or {u x k : Nat} (hk : k < 6) (hu : u < 128 ^ k) (_ : x < 256) : bits .or .u64 (u : Int) (IntKind.u64.wrap ((x : Int) % 128 * 2 ^ (7 * k))) = ((u + x % 128 * 128 ^ k : Nat) : Int) := by
  rw [← bits_orGet (v := x % 128) hu (Nat.mod_lt _ (by decide)) hk]
  congr 1
  have h6 : (128 : Nat) ^ k ≤ 128 ^ 5 := Nat.pow_le_pow_right (by decide) (by omega)
  have h5 : (128 : Nat) ^ 5 = 34359738368 := by decide
  have hm : x % 128 * 128 ^ k ≤ 127 * 128 ^ k := Nat.mul_le_mul_right _ (by omega)
  have e : (x : Int) % 128 * 2 ^ (7 * k) = ((x % 128 * 128 ^ k : Nat) : Int) := by
    rw [← pow7]
    simp
  rw [e, IntKind.wrap_u64]
  omega
theorem get_next {u x k : Nat} (hk : k < 6) (hu : u < 128 ^ k) : u + x % 128 * 128 ^ k < 128 ^ (k + 1) ∧ u + x % 128 * 128 ^ k < 4398046511104 := by
  have hm : x % 128 * 128 ^ k ≤ 127 * 128 ^ k := Nat.mul_le_mul_right _ (by omega)
  have h6 : (128 : Nat) ^ (k + 1) ≤ 128 ^ 6 := Nat.pow_le_pow_right (by decide) (by omega)
  have h5 : (128 : Nat) ^ 6 = 4398046511104 := by decide
  have h7 : (128 : Nat) ^ (k + 1) = 128 * 128 ^ k := by rw [Nat.pow_succ, Nat.mul_comm]
  omega
theorem get_and {q : Nat} (h : q < 4398046511104) : bits .and .u64 (q : Int) 1 = (q : Int) % 2 := by
  rw [bits_and1 (by omega)]; omega
theorem get_xor {q : Nat} (h : q < 4398046511104) : bits .xor .i64 ((q : Int) / 2) (-((q : Int) % 2)) = zag q := by
  rw [← bits_zag (by omega)]; rfl
set_option maxHeartbeats 1000000 in
set_option maxRecDepth 100000 in
theorem wire_get {v : Value} {b : List UInt8} (w : World) (hv : Bts w.cell? v b) :
    Calls Try.prog 63 #[v] w fun e w' => e = .returned (.tuple #[.int .i64 (getB b).1, .int .i64 (getB b).2.1, .int .i64 (getB b).2.2]) ∧ Grow w w' := by
  obtain ⟨a, cap, rfl, h1, h2, -, hel⟩ := hv
  unfold maxLen at h2
  go_enter Try.func63, Try.ntmps63
  go_wp2
  go_loopw [5, 10] (fun u i wr => ∃ k u' : Nat, k ≤ b.length ∧ k ≤ 6 ∧ i = .int .i64 k ∧ u = .int .u64 u' ∧ u' < 128 ^ k ∧ getGo k u' (b.drop k) = getB b ∧ Grow w wr) (fun _ i _ => b.length - (intOf i).toNat)
  case atStart => exact ⟨0, 0, by omega, by omega, rfl, rfl, by simp, rfl, (by repeat (first | with_reducible assumption | with_reducible exact Grow.refl _ | with_reducible apply Grow.drewN | with_reducible apply Grow.drew | with_reducible apply Grow.alloc | (refine Grow.setCell ?_ (by simp; done) _)))⟩
  case round =>
    obtain ⟨k, u, hk', hk6, rfl, rfl, hu, hE, hb⟩ := hrel
    by_cases hlt : k < b.length
    · obtain ⟨bb, o, rfl, c0⟩ := byteAt hel k hlt
      replace c0 := hb.sub _ _ c0
      have hE2 := get_more hE hlt
      have hx := b[k].toNat_lt
      clear hel hE
      obtain ⟨x, hxe⟩ : ∃ x, x = b[k].toNat := ⟨_, rfl⟩
      rw [← hxe] at c0 hx hE2
      clear hxe
      by_cases h6 : 6 ≤ k
      · rw [if_pos h6] at hE2
        have HE := Lib.hid hE2
        clear hE2
        go_wp2
        refine bodyPost_ret (v := .tuple #[.int .i64 0, .int .i64 0, .int .i64 3]) (by simp [results, Try.results63, go_sem]) rfl ?_
        exact ⟨ret_3 HE.out, hb⟩
      · rw [if_neg h6] at hE2
        have hor := get_or (by omega) hu hx
        obtain ⟨hq1, hq2⟩ := get_next (x := x) (by omega) hu
        obtain ⟨q, hqe⟩ : ∃ q, q = u + x % 128 * 128 ^ k := ⟨_, rfl⟩
        rw [← hqe] at hE2 hor hq1 hq2
        have hand := get_and hq2
        have HX := Lib.hid (get_xor hq2)
        have HQ1 := Lib.hid hq1
        have HE := Lib.hid hE2
        have hand7 := bits_and127 hx
        clear hE2 hqe hq1 hu
        by_cases h8 : 128 ≤ x
        · go_wp2
          go_roundw
          case rel => exact ⟨k + 1, q, by omega, by omega, by go_num, by go_num, HQ1.out, by have h9 := HE.out; rwa [if_pos h8] at h9, hb⟩
          case measure => simp [intOf]; omega
        · by_cases h9 : 0 < k ∧ x = 0
          · have HE2 := Lib.hid (show ((0 : Int), (0 : Int), (2 : Int)) = getB b by have h9' := HE.out; rwa [if_neg h8, if_pos h9] at h9')
            obtain ⟨h9a, rfl⟩ := h9
            go_wp2
            refine bodyPost_ret (v := .tuple #[.int .i64 0, .int .i64 0, .int .i64 2]) (by simp [results, Try.results63, go_sem]) rfl ?_
            exact ⟨ret_3 HE2.out, (by repeat (first | with_reducible assumption | with_reducible exact Grow.refl _ | with_reducible apply Grow.drewN | with_reducible apply Grow.drew | with_reducible apply Grow.alloc | (refine Grow.setCell ?_ (by simp; done) _)))⟩
          · have HE2 := Lib.hid (show (zag q, (k : Int) + 1, (0 : Int)) = getB b by have h9' := HE.out; rwa [if_neg h8, if_neg h9] at h9')
            by_cases hk0 : 0 < k
            · have hx0 : ¬ x = 0 := fun e => h9 ⟨hk0, e⟩
              have hbx : ((x : Int) == 0) = false := by simp [hx0]
              clear h9 hx0
              go_wp2
              refine bodyPost_ret (v := .tuple #[.int .i64 (zag q), .int .i64 ((k : Int) + 1), .int .i64 0]) (by simp [results, Try.results63, go_sem, HX.out]) rfl ?_
              exact ⟨ret_3 HE2.out, (by repeat (first | with_reducible assumption | with_reducible exact Grow.refl _ | with_reducible apply Grow.drewN | with_reducible apply Grow.drew | with_reducible apply Grow.alloc | (refine Grow.setCell ?_ (by simp; done) _)))⟩
            · clear h9
              go_wp2
              refine bodyPost_ret (v := .tuple #[.int .i64 (zag q), .int .i64 ((k : Int) + 1), .int .i64 0]) (by simp [results, Try.results63, go_sem, HX.out]) rfl ?_
              exact ⟨ret_3 HE2.out, (by repeat (first | with_reducible assumption | with_reducible exact Grow.refl _ | with_reducible apply Grow.drewN | with_reducible apply Grow.drew | with_reducible apply Grow.alloc | (refine Grow.setCell ?_ (by simp; done) _)))⟩
    · have HE := Lib.hid (get_end hE hlt)
      clear hE
      go_wp2
      refine bodyPost_ret (v := .tuple #[.int .i64 0, .int .i64 0, .int .i64 8]) (by simp [results, Try.results63, go_sem]) rfl ?_
      exact ⟨ret_3 HE.out, hb⟩
theorem ref_get_zag {q : Nat} : (if q % 2 = 1 then -((q / 2 : Nat) : Int) - 1 else ((q / 2 : Nat) : Int)) = zag q := rfl
set_option maxHeartbeats 2000000 in
set_option maxRecDepth 100000 in
theorem ref_get {v : Value} {b : List UInt8} (w : World) (hv : Bts w.cell? v b) :
    Calls Try.prog 135 #[v] w fun e w' => e = .returned (.tuple #[.int .i64 (getB b).1, .int .i64 (getB b).2.1, .int .i64 (getB b).2.2]) ∧ Grow w w' := by
  obtain ⟨a, cap, rfl, h1, h2, -, hel⟩ := hv
  unfold maxLen at h2
  go_enter Try.func135, Try.ntmps135
  go_wp2
  go_loopw [5, 6, 7] (fun u g i wr => ∃ k q p : Nat, k ≤ b.length ∧ k ≤ 6 ∧ i = .int .i64 k ∧ u = .int .i64 q ∧ g = .int .i64 p ∧ p = 128 ^ k ∧ q < 128 ^ k ∧ getGo k q (b.drop k) = getB b ∧ Grow w wr) (fun _ _ i _ => b.length - (intOf i).toNat)
  case atStart => exact ⟨0, 0, 1, by omega, by omega, rfl, rfl, rfl, rfl, by simp, rfl, (by repeat (first | with_reducible assumption | with_reducible exact Grow.refl _ | with_reducible apply Grow.drewN | with_reducible apply Grow.drew | with_reducible apply Grow.alloc | (refine Grow.setCell ?_ (by simp; done) _)))⟩
  case round =>
    obtain ⟨k, u, p, hk', hk6, rfl, rfl, rfl, hp, hu, hE, hb⟩ := hrel
    by_cases hlt : k < b.length
    · obtain ⟨bb, o, rfl, c0⟩ := byteAt hel k hlt
      replace c0 := hb.sub _ _ c0
      have hE2 := get_more hE hlt
      have hx := b[k].toNat_lt
      clear hel hE
      obtain ⟨x, hxe⟩ : ∃ x, x = b[k].toNat := ⟨_, rfl⟩
      rw [← hxe] at c0 hx hE2
      clear hxe
      have hne : ((k : Int) == (b.length : Int)) = false := by rw [beq_eq_false_iff_ne]; omega
      by_cases h6 : 6 ≤ k
      · rw [if_pos h6] at hE2
        have HE := Lib.hid hE2
        have h6e : ((k : Int) == 6) = true := by rw [beq_iff_eq]; omega
        clear hE2 hp hu
        go_wp2
        refine bodyPost_ret (v := .tuple #[.int .i64 0, .int .i64 0, .int .i64 3]) (by simp [results, Try.results135, go_sem]) rfl ?_
        exact ⟨ret_3 HE.out, hb⟩
      · rw [if_neg h6] at hE2
        have h6e : ((k : Int) == 6) = false := by rw [beq_eq_false_iff_ne]; omega
        obtain ⟨hq1, hq2⟩ := get_next (x := x) (by omega) hu
        have hp5 : p ≤ 34359738368 := by
          rw [hp]
          have h6 : (128 : Nat) ^ k ≤ 128 ^ 5 := Nat.pow_le_pow_right (by decide) (by omega)
          have h5 : (128 : Nat) ^ 5 = 34359738368 := by decide
          omega
        have HP := Lib.hid (show p * 128 = 128 ^ (k + 1) by rw [hp, Nat.pow_succ])
        rw [← hp] at hE2 hq2 hq1 hu
        obtain ⟨m, hm⟩ : ∃ m, m = x % 128 * p := ⟨_, rfl⟩
        rw [← hm] at hE2 hq2 hq1
        have hmul : ((x : Int) % 128) * (p : Int) = (m : Int) := by rw [hm]; simp
        obtain ⟨q, hqe⟩ : ∃ q, q = u + m := ⟨_, rfl⟩
        have hadd : (u : Int) + (m : Int) = (q : Int) := by omega
        have hqm : m ≤ q := by omega
        rw [← hqe] at hE2 hq1 hq2
        have HQ1 := Lib.hid hq1
        have HE := Lib.hid hE2
        clear hE2 hqe hq1 hu hp hm
        by_cases h8 : 128 ≤ x
        · go_wp2
          go_roundw
          case rel => exact ⟨k + 1, q, p * 128, by omega, by omega, by go_num, by go_num, by go_num, HP.out, HQ1.out, by have h9 := HE.out; rwa [if_pos h8] at h9, (by repeat (first | with_reducible assumption | with_reducible exact Grow.refl _ | with_reducible apply Grow.drewN | with_reducible apply Grow.drew | with_reducible apply Grow.alloc | (refine Grow.setCell ?_ (by simp; done) _)))⟩
          case measure => simp [intOf]; omega
        · by_cases h9 : 0 < k ∧ x = 0
          · have HE2 := Lib.hid (show ((0 : Int), (0 : Int), (2 : Int)) = getB b by have h9' := HE.out; rwa [if_neg h8, if_pos h9] at h9')
            obtain ⟨h9a, rfl⟩ := h9
            go_wp2
            refine bodyPost_ret (v := .tuple #[.int .i64 0, .int .i64 0, .int .i64 2]) (by simp [results, Try.results135, go_sem]) rfl ?_
            exact ⟨ret_3 HE2.out, (by repeat (first | with_reducible assumption | with_reducible exact Grow.refl _ | with_reducible apply Grow.drewN | with_reducible apply Grow.drew | with_reducible apply Grow.alloc | (refine Grow.setCell ?_ (by simp; done) _)))⟩
          · have HE2 := Lib.hid (show (zag q, (k : Int) + 1, (0 : Int)) = getB b by have h9' := HE.out; rwa [if_neg h8, if_neg h9] at h9')
            have hcase : (0 < k ∧ ¬ x = 0) ∨ ¬ 0 < k := by
              by_cases hk0 : 0 < k
              · exact .inl ⟨hk0, fun e => h9 ⟨hk0, e⟩⟩
              · exact .inr hk0
            clear h9
            by_cases hodd : q % 2 = 1
            · have HZ : Hid (zag q = -((q : Int) / 2) - 1) := by show zag q = _; unfold zag; rw [if_pos hodd]; simp
              have ho : ((q : Int) % 2 == 1) = true := by rw [beq_iff_eq]; omega
              clear hodd
              rcases hcase with ⟨hk0, hx0⟩ | hk0
              · have hbx : ((x : Int) == 0) = false := by rw [beq_eq_false_iff_ne]; omega
                clear hx0
                go_wp2
                refine bodyPost_ret (v := .tuple #[.int .i64 (zag q), .int .i64 ((k : Int) + 1), .int .i64 0]) (by simp [results, Try.results135, go_sem, HZ.out]) rfl ?_
                exact ⟨ret_3 HE2.out, (by repeat (first | with_reducible assumption | with_reducible exact Grow.refl _ | with_reducible apply Grow.drewN | with_reducible apply Grow.drew | with_reducible apply Grow.alloc | (refine Grow.setCell ?_ (by simp; done) _)))⟩
              · go_wp2
                refine bodyPost_ret (v := .tuple #[.int .i64 (zag q), .int .i64 ((k : Int) + 1), .int .i64 0]) (by simp [results, Try.results135, go_sem, HZ.out]) rfl ?_
                exact ⟨ret_3 HE2.out, (by repeat (first | with_reducible assumption | with_reducible exact Grow.refl _ | with_reducible apply Grow.drewN | with_reducible apply Grow.drew | with_reducible apply Grow.alloc | (refine Grow.setCell ?_ (by simp; done) _)))⟩
            · have HZ : Hid (zag q = (q : Int) / 2) := by show zag q = _; unfold zag; rw [if_neg hodd]; simp
              have ho : ((q : Int) % 2 == 1) = false := by rw [beq_eq_false_iff_ne]; omega
              clear hodd
              rcases hcase with ⟨hk0, hx0⟩ | hk0
              · have hbx : ((x : Int) == 0) = false := by rw [beq_eq_false_iff_ne]; omega
                clear hx0
                go_wp2
                refine bodyPost_ret (v := .tuple #[.int .i64 (zag q), .int .i64 ((k : Int) + 1), .int .i64 0]) (by simp [results, Try.results135, go_sem, HZ.out]) rfl ?_
                exact ⟨ret_3 HE2.out, (by repeat (first | with_reducible assumption | with_reducible exact Grow.refl _ | with_reducible apply Grow.drewN | with_reducible apply Grow.drew | with_reducible apply Grow.alloc | (refine Grow.setCell ?_ (by simp; done) _)))⟩
              · go_wp2
                refine bodyPost_ret (v := .tuple #[.int .i64 (zag q), .int .i64 ((k : Int) + 1), .int .i64 0]) (by simp [results, Try.results135, go_sem, HZ.out]) rfl ?_
                exact ⟨ret_3 HE2.out, (by repeat (first | with_reducible assumption | with_reducible exact Grow.refl _ | with_reducible apply Grow.drewN | with_reducible apply Grow.drew | with_reducible apply Grow.alloc | (refine Grow.setCell ?_ (by simp; done) _)))⟩
    · have HE := Lib.hid (get_end hE hlt)
      have hne : ((k : Int) == (b.length : Int)) = true := by rw [beq_iff_eq]; omega
      clear hE hp hu
      go_wp2
      refine bodyPost_ret (v := .tuple #[.int .i64 0, .int .i64 0, .int .i64 8]) (by simp [results, Try.results135, go_sem]) rfl ?_
      exact ⟨ret_3 HE.out, hb⟩
end Go.Proofs.Ytgbhpghgohggcaa

/- Plain: numbers read one after the other, with an error that stays; so messages are read as readB says. -/
namespace Go.Proofs.Ytgbhpghgohggcaa
abbrev RS := List UInt8 × Int
/-- the next number, and what is left -/
def nextE (s : RS) : Int × RS := if s.2 ≠ 0 then (0, s) else if (getB s.1).2.2 ≠ 0 then (0, s.1, (getB s.1).2.2) else ((getB s.1).1, s.1.drop (getB s.1).2.1.toNat, 0)
def nextN : Nat → RS → List Int × RS
  | 0, s => ([], s)
  | n + 1, s => ((nextE s).1 :: (nextN n (nextE s).2).1, (nextN n (nextE s).2).2)
theorem nextN_len : ∀ (n : Nat) (s : RS), (nextN n s).1.length = n
  | 0, _ => rfl
  | n + 1, s => by rw [nextN]; simp [nextN_len n]
theorem nextN_snoc : ∀ (n : Nat) (s : RS), nextN (n + 1) s = ((nextN n s).1 ++ [(nextE (nextN n s).2).1], (nextE (nextN n s).2).2)
  | 0, s => rfl
  | n + 1, s => by
    rw [nextN, nextN_snoc n]
    rfl
theorem nextE_ok {l : List UInt8} (h : (getB l).2.2 = 0) : nextE (l, 0) = ((getB l).1, l.drop (getB l).2.1.toNat, 0) := by
  unfold nextE
  rw [if_neg (by simp), if_neg (by simpa using h)]
theorem nextE_bad {l : List UInt8} (h : (getB l).2.2 ≠ 0) : nextE (l, 0) = (0, l, (getB l).2.2) := by
  unfold nextE
  rw [if_neg (by simp), if_pos h]
theorem nextE_stuck {l : List UInt8} {e : Int} (h : e ≠ 0) : nextE (l, e) = (0, l, e) := by
  unfold nextE
  rw [if_pos h]
theorem nextN_stuck : ∀ (n : Nat) {l : List UInt8} {e : Int}, e ≠ 0 → nextN n (l, e) = (List.replicate n 0, l, e)
  | 0, _, _, _ => rfl
  | n + 1, l, e, h => by rw [nextN, nextE_stuck h, nextN_stuck n h]; rfl
theorem nextN_ok : ∀ (n : Nat) {l : List UInt8} {xs : List Int} {r : List UInt8}, getN n l = .inl (xs, r) → nextN n (l, 0) = (xs, r, 0)
  | 0, l, xs, r, h => by
    simp only [getN, Sum.inl.injEq, Prod.mk.injEq] at h
    obtain ⟨rfl, rfl⟩ := h
    rfl
  | n + 1, l, xs, r, h => by
    rw [getN] at h
    split at h
    · rename_i h0
      cases hn : getN n (l.drop (getB l).2.1.toNat) with
      | inr e => rw [hn] at h; simp at h
      | inl p =>
        obtain ⟨ys, r'⟩ := p
        rw [hn] at h
        simp only [Sum.inl.injEq, Prod.mk.injEq] at h
        obtain ⟨rfl, rfl⟩ := h
        rw [nextN, nextE_ok h0, nextN_ok n hn]
    · simp at h
theorem nextN_err : ∀ (n : Nat) {l : List UInt8} {e : Int}, getN n l = .inr e → ∃ xs r, nextN n (l, 0) = (xs, r, e) ∧ e ≠ 0 ∧ xs.getD (n - 1) 0 = 0
  | 0, l, e, h => by simp [getN] at h
  | n + 1, l, e, h => by
    rw [getN] at h
    split at h
    · rename_i h0
      cases hn : getN n (l.drop (getB l).2.1.toNat) with
      | inl p =>
        obtain ⟨ys, r'⟩ := p
        rw [hn] at h
        simp at h
      | inr e' =>
        rw [hn] at h
        simp only [Sum.inr.injEq] at h
        subst h
        obtain ⟨xs, r, h1, h2, h3⟩ := nextN_err n hn
        refine ⟨(getB l).1 :: xs, r, by rw [nextN, nextE_ok h0, h1], h2, ?_⟩
        cases n with
        | zero => simp [getN] at hn
        | succ n => simpa using h3
    · rename_i h0
      simp only [Sum.inr.injEq] at h
      subst h
      refine ⟨List.replicate (n + 1) 0, l, by rw [nextN, nextE_bad h0, nextN_stuck n h0]; rfl, h0, ?_⟩
      simp
/-- the numbers' last word -/
def readP (m : Ms) (t : RS) : Ms × Int :=
  if (if t.2 = 0 ∧ t.1 ≠ [] then 2 else t.2) = 0 then (if wrongM m = 0 then (m, 0) else (ms0, wrongM m)) else (ms0, if t.2 = 0 ∧ t.1 ≠ [] then 2 else t.2)
/-- the program's way -/
def readE (kind : Int) (l : List UInt8) : Ms × Int :=
  if (nextN 3 (l, 0)).2.2 = 0 ∧ ((nextN 3 (l, 0)).1.getD 2 0 < 0 ∨ 4 < (nextN 3 (l, 0)).1.getD 2 0) then (ms0, 5)
  else readP ⟨kind, (nextN 3 (l, 0)).1.getD 0 0, (nextN 3 (l, 0)).1.getD 1 0, pairs ((nextN 3 (l, 0)).1.getD 1 0) (nextN (2 * ((nextN 3 (l, 0)).1.getD 2 0).toNat) (nextN 3 (l, 0)).2).1⟩ (nextN (2 * ((nextN 3 (l, 0)).1.getD 2 0).toNat) (nextN 3 (l, 0)).2).2
theorem readE_body (kind : Int) (l : List UInt8) : readE kind l = readBody kind l := by
  unfold readE readBody
  cases h3 : getN 3 l with
  | inr e =>
    obtain ⟨xs, r, h1, h2, h4⟩ := nextN_err 3 h3
    rw [h1]
    simp only
    rw [if_neg (fun h => h2 h.1)]
    have h5 : xs.getD 2 0 = 0 := h4
    rw [h5]
    simp only [Int.toNat_zero, Nat.mul_zero, nextN]
    unfold readP
    rw [if_neg (by simp [h2])]
    simp [h2]
  | inl p =>
    obtain ⟨xs, r⟩ := p
    rw [nextN_ok 3 h3]
    simp only [true_and]
    by_cases hn : xs.getD 2 0 < 0 ∨ 4 < xs.getD 2 0
    · rw [if_pos hn, if_pos hn]
    · rw [if_neg hn, if_neg hn]
      cases h4 : getN (2 * (xs.getD 2 0).toNat) r with
      | inr e =>
        obtain ⟨ys, r', h5, h6, -⟩ := nextN_err _ h4
        rw [h5]
        unfold readP
        simp [h6]
      | inl p =>
        obtain ⟨ys, r'⟩ := p
        rw [nextN_ok _ h4]
        unfold readP
        by_cases hr : r' = []
        · simp [hr]
        · simp [hr]
theorem readB_E (b : List UInt8) : readB b = if b.length < 3 then (ms0, 8) else if sumOk b = true then readE ((b.getD 0 0).toNat : Nat) ((b.take (b.length - 2)).drop 1) else (ms0, 7) := by
  unfold readB
  rw [readE_body]
theorem pairs_snoc (h : Int) : ∀ (n : Nat) {xs : List Int} {k x : Int}, xs.length = 2 * n → pairs h (xs ++ [k, x]) = pairs h xs ++ [⟨h, k, x⟩]
  | 0, xs, k, x, hl => by
    obtain rfl : xs = [] := List.eq_nil_of_length_eq_zero (by omega)
    rfl
  | n + 1, xs, k, x, hl => by
    match xs, hl with
    | [], hl => simp at hl
    | [a], hl => simp at hl; omega
    | a :: b :: xs, hl =>
      simp only [List.cons_append, pairs]
      rw [pairs_snoc h n (by simp at hl; omega)]
theorem pairs_next (h : Int) (n : Nat) (s : RS) : pairs h (nextN (2 * (n + 1)) s).1 = pairs h (nextN (2 * n) s).1 ++ [⟨h, (nextE (nextN (2 * n) s).2).1, (nextE (nextE (nextN (2 * n) s).2).2).1⟩] ∧
    (nextN (2 * (n + 1)) s).2 = (nextE (nextE (nextN (2 * n) s).2).2).2 := by
  rw [show 2 * (n + 1) = 2 * n + 1 + 1 by omega, nextN_snoc, nextN_snoc]
  simp only [List.append_assoc, List.cons_append, List.nil_append]
  exact ⟨pairs_snoc h n (nextN_len _ _), trivial⟩
/-- what is got is no great number -/
theorem zag_bound {u : Nat} (h : u < 4398046511104) : -2199023255552 ≤ zag u ∧ zag u < 2199023255552 := by
  unfold zag
  split <;> omega
theorem getGo_bound : ∀ (b : List UInt8) (i u : Nat), u < 128 ^ i → -2199023255552 ≤ (getGo i u b).1 ∧ (getGo i u b).1 < 2199023255552 ∧ 0 ≤ (getGo i u b).2.1 ∧ (getGo i u b).2.1 ≤ i + b.length ∧ 0 ≤ (getGo i u b).2.2 ∧ (getGo i u b).2.2 ≤ 8
  | [], i, u, _ => by
    rw [getGo]
    refine ⟨by decide, by decide, by decide, ?_, by decide, by decide⟩
    show (0 : Int) ≤ _
    omega
  | c :: b, i, u, hu => by
    have hx : c.toNat % 128 ≤ 127 := by omega
    have hm : c.toNat % 128 * 128 ^ i ≤ 127 * 128 ^ i := Nat.mul_le_mul_right _ hx
    have hlt : u + c.toNat % 128 * 128 ^ i < 128 ^ (i + 1) := by
      rw [Nat.pow_succ]; omega
    rw [getGo]
    split
    · refine ⟨by decide, by decide, by decide, ?_, by decide, by decide⟩
      show (0 : Int) ≤ _
      omega
    · rename_i h6
      split
      · have := getGo_bound b (i + 1) _ hlt
        simp only [List.length_cons]
        push_cast at this ⊢
        omega
      · split
        · refine ⟨by decide, by decide, by decide, ?_, by decide, by decide⟩
          show (0 : Int) ≤ _
          omega
        · have h6' : (128 : Nat) ^ (i + 1) ≤ 128 ^ 6 := Nat.pow_le_pow_right (by decide) (by omega)
          have e6 : (128 : Nat) ^ 6 = 4398046511104 := by decide
          have := zag_bound (u := u + c.toNat % 128 * 128 ^ i) (by omega)
          simp only [List.length_cons]
          push_cast
          refine ⟨this.1, this.2, by omega, by omega, by decide, by decide⟩
theorem getB_bound (b : List UInt8) : -2199023255552 ≤ (getB b).1 ∧ (getB b).1 < 2199023255552 ∧ 0 ≤ (getB b).2.1 ∧ (getB b).2.1 ≤ b.length ∧ 0 ≤ (getB b).2.2 ∧ (getB b).2.2 ≤ 8 := by
  have := getGo_bound b 0 0 (by decide)
  unfold getB
  refine ⟨this.1, this.2.1, this.2.2.1, ?_, this.2.2.2.2⟩
  have h := this.2.2.2.1
  simp only [Int.natCast_zero, Int.zero_add] at h
  exact h
theorem nextE_bound (s : RS) : -2199023255552 ≤ (nextE s).1 ∧ (nextE s).1 < 2199023255552 := by
  have := getB_bound s.1
  unfold nextE
  split
  · exact ⟨(by show (-2199023255552 : Int) ≤ 0; decide), (by show (0 : Int) < 2199023255552; decide)⟩
  · split
    · exact ⟨(by show (-2199023255552 : Int) ≤ 0; decide), (by show (0 : Int) < 2199023255552; decide)⟩
    · exact ⟨this.1, this.2.1⟩
end Go.Proofs.Ytgbhpghgohggcaa

/- Walks: the reader's next number. -/
namespace Go.Proofs.Ytgbhpghgohggcaa
open Go.RowKit
theorem Sl.drop {α : Type} {T : Ty α} {c : CM} {b o n cap : Nat} {l : List α} (h : Sl T c (.slice (some ⟨b, o, none⟩) n cap) l) (k : Nat) (hk : k ≤ n) : Sl T c (.slice (some ⟨b, o + k * T.size, none⟩) (n - k) (cap - k)) (l.drop k) := by
  obtain ⟨a', cap', he, h1, h2, h3, hel⟩ := h
  simp only [Value.slice.injEq] at he
  obtain ⟨rfl, rfl, rfl⟩ := he
  refine ⟨_, cap - k, by rw [List.length_drop], by rw [List.length_drop]; omega, by omega, by simp, fun i x e => ?_⟩
  rw [List.getElem?_drop] at e
  obtain ⟨b', o', cs, ha, hR, hA⟩ := hel _ x e
  simp only [Option.some.injEq, Addr.mk.injEq] at ha
  obtain ⟨rfl, rfl, -⟩ := ha
  refine ⟨b, o + k * T.size, cs, rfl, hR, ?_⟩
  have e2 : o + (k + i) * T.size = o + k * T.size + i * T.size := by rw [Nat.add_mul, Nat.add_assoc]
  rw [← e2]; exact hA
theorem Sl.none' {α : Type} (T : Ty α) (c : CM) (a : Addr) {l : List α} (hl : l = []) : Sl T c (.slice (some a) 0 0) l := by
  subst hl
  exact ⟨some a, 0, rfl, Nat.le_refl _, Nat.zero_le _, by simp, fun i x e => by simp at e⟩
theorem cells2 {w : World} {B : Nat} {a b : Value} {t : TypeId} (h : w.heap[B]? = some (.cells #[a, b] t (0, 0))) : w.cell? ⟨B, 0, none⟩ = some a ∧ w.cell? ⟨B, 1, none⟩ = some b := by
  refine ⟨?_, ?_⟩ <;> simp [World.cell?, h]
theorem row_set2_0 {w : World} {B : Nat} {a b : Value} {t : TypeId} (h : w.heap[B]? = some (.cells #[a, b] t (0, 0))) (u : Value) : (w.setCell ⟨B, 0, none⟩ u).heap[B]? = some (.cells #[u, b] t (0, 0)) := by
  simp only [World.setCell, Array.getElem?_modify, h]; simp
theorem row_set2_1 {w : World} {B : Nat} {a b : Value} {t : TypeId} (h : w.heap[B]? = some (.cells #[a, b] t (0, 0))) (u : Value) : (w.setCell ⟨B, 1, none⟩ u).heap[B]? = some (.cells #[a, u] t (0, 0)) := by
  simp only [World.setCell, Array.getElem?_modify, h]; simp
/-- a reader: bytes that are left, and an error -/
def Rdr (w : World) (B : Nat) (c : CM) (s : RS) : Prop := ∃ a cap, w.heap[B]? = some (.cells #[.slice a s.1.length cap, .int .i64 s.2] 155 (0, 0)) ∧ Sl Ty.byte c (.slice a s.1.length cap) s.1
theorem sub_by {c : CM} {w w' : World} {B : Nat} (hc : Sub c w.cell?) (hB : ∀ a v, c a = some v → a.block ≠ B) (hg : w.grownBy w' (some B)) : Sub c w'.cell? := fun a v e => by
  rw [by_cell hg (World.block_lt_of_cell? w a (hc a v e)) (hB a v e)]
  exact hc a v e
theorem Rdr.grow {w w' : World} {B : Nat} {c : CM} {s : RS} (h : Rdr w B c s) (hg : Grow w w') : Rdr w' B c s := by
  obtain ⟨a, cap, h1, h2⟩ := h
  exact ⟨a, cap, row_grow h1 hg, h2⟩
set_option maxRecDepth 100000 in
set_option maxHeartbeats 1000000 in
theorem wire_next {w : World} {B : Nat} {c : CM} {s : RS} (hr : Rdr w B c s) (hc : Sub c w.cell?) :
    Calls Try.prog 130 #[.pointer (some ⟨B, 0, none⟩)] w fun e w' => e = .returned (.int .i64 (nextE s).1) ∧ Rdr w' B c (nextE s).2 ∧ w.grownBy w' (some B) := by
  obtain ⟨l, er⟩ := s
  obtain ⟨a, cap, hrow, hl⟩ := hr
  simp only at hrow hl
  have HROW := Lib.hid hrow
  have HL := Lib.hid hl
  obtain ⟨c0, c1⟩ := cells2 hrow
  have zB : B < w.heap.size := (Array.getElem?_eq_some_iff.1 hrow).1
  have f0 := row_free hrow
  clear hrow
  by_cases he : er = 0
  · subst he
    have HG := Lib.hid (wire_get w (hl.mono hc))
    obtain ⟨-, -, hb0, hb1, hb2, hb3⟩ := getB_bound l
    by_cases h2 : (getB l).2.2 = 0
    · have HE := Lib.hid (nextE_ok h2)
      obtain ⟨k, hk⟩ : ∃ k : Nat, (getB l).2.1 = k := ⟨(getB l).2.1.toNat, by omega⟩
      have hne : l ≠ [] := fun e => by rw [e] at h2; revert h2; decide
      rw [hk] at HG HE
      rw [h2] at HG
      have hkl : k ≤ l.length := by omega
      simp only [Int.toNat_natCast] at HE
      clear hb0 hb1 hb2 hb3 h2 hk
      obtain ⟨a', cap', hf, g1, g2, g3, hel⟩ := id hl
      simp only [Value.slice.injEq, true_and] at hf
      obtain ⟨rfl, rfl⟩ := hf
      unfold maxLen at g2
      have hlp : 0 < l.length := List.length_pos_iff.2 hne
      obtain ⟨bb, o, cs, rfl, -, -⟩ := hel 0 l[0] (by simp)
      clear hel hne g3
      by_cases hcap : cap = k
      · have HD : Hid (Sl Ty.byte c (.slice (some ⟨bb, o, none⟩) 0 0) (l.drop k)) := Lib.hid (Sl.none' _ _ _ (List.drop_eq_nil_of_le (by omega)))
        have HDL : Hid ((l.drop k).length = 0) := Lib.hid (by rw [List.length_drop]; omega)
        obtain rfl := hcap
        clear hl
        generalize (getB l).1 = x at *
        go_enter Try.func130, Try.ntmps130
        go_wp2_with fail
        refine HG.out.mono ?_
        rintro e w1 ⟨rfl, hb1⟩
        have R1 := Lib.hid (row_grow HROW.out hb1)
        have HB1 := Lib.hid hb1
        obtain ⟨d0, d1⟩ := cells2 R1.out
        have zB1 : B < w1.heap.size := (Array.getElem?_eq_some_iff.1 R1.out).1
        have f1 := row_free R1.out
        clear hb1 c0 c1 f0
        go_wp2
        go_ret
        refine ⟨ret_int (by rw [HE.out]), ?_, grownBy_trans (grownBy_of_grow HB1.out (some B)) (grownBy_setCell w1 ⟨B, 0, none⟩ _)⟩
        rw [HE.out]
        have h9 := row_set2_0 R1.out (.slice (some ⟨bb, o, none⟩) 0 0)
        refine ⟨some ⟨bb, o, none⟩, 0, ?_, ?_⟩
        · rw [show (l.drop cap, (0 : Int)).1.length = 0 from HDL.out]
          exact h9
        · rw [show (l.drop cap, (0 : Int)).1.length = 0 from HDL.out]; exact HD.out
      · have HD := Lib.hid (hl.drop k hkl)
        have HDL : Hid ((l.drop k).length = l.length - k) := Lib.hid (List.length_drop)
        clear hl
        generalize (getB l).1 = x at *
        go_enter Try.func130, Try.ntmps130
        go_wp2_with fail
        refine HG.out.mono ?_
        rintro e w1 ⟨rfl, hb1⟩
        have R1 := Lib.hid (row_grow HROW.out hb1)
        have HB1 := Lib.hid hb1
        obtain ⟨d0, d1⟩ := cells2 R1.out
        have zB1 : B < w1.heap.size := (Array.getElem?_eq_some_iff.1 R1.out).1
        have f1 := row_free R1.out
        clear hb1 c0 c1 f0
        go_wp2
        go_ret
        refine ⟨ret_int (by rw [HE.out]), ?_, grownBy_trans (grownBy_of_grow HB1.out (some B)) (grownBy_setCell w1 ⟨B, 0, none⟩ _)⟩
        rw [HE.out]
        have h9 := row_set2_0 R1.out (.slice (some ⟨bb, o + k, none⟩) (l.length - k) (cap - k))
        refine ⟨some ⟨bb, o + k, none⟩, cap - k, ?_, ?_⟩
        · rw [show (l.drop k, (0 : Int)).1.length = l.length - k from HDL.out]
          exact h9
        · rw [show (l.drop k, (0 : Int)).1.length = l.length - k from HDL.out]; simpa [Ty.byte] using HD.out
    · have HE := Lib.hid (nextE_bad h2)
      clear hb0 hb1
      have hb4 : ((getB l).2.2 != 0) = true := by simp [h2]
      clear h2 hl
      generalize (getB l).1 = x at *
      generalize (getB l).2.1 = y at *
      generalize (getB l).2.2 = z at *
      go_enter Try.func130, Try.ntmps130
      go_wp2_with fail
      refine HG.out.mono ?_
      rintro e w1 ⟨rfl, hb1⟩
      have R1 := Lib.hid (row_grow HROW.out hb1)
      have HB1 := Lib.hid hb1
      obtain ⟨d0, d1⟩ := cells2 R1.out
      have zB1 : B < w1.heap.size := (Array.getElem?_eq_some_iff.1 R1.out).1
      have f1 := row_free R1.out
      clear hb1 c0 c1 f0
      go_wp2
      go_ret
      refine ⟨ret_int (by rw [HE.out]), ?_, grownBy_trans (grownBy_of_grow HB1.out (some B)) (grownBy_setCell w1 ⟨B, 1, none⟩ _)⟩
      rw [HE.out]
      exact ⟨a, cap, row_set2_1 R1.out _, HL.out⟩
  · have HE := Lib.hid (nextE_stuck (l := l) he)
    have hb4 : (er != 0) = true := by simp [he]
    clear he hl
    go_enter Try.func130, Try.ntmps130
    go_wp2
    go_ret
    refine ⟨ret_int (by rw [HE.out]), ?_, grownBy_of_grow (Grow.refl _) _⟩
    rw [HE.out]
    exact ⟨a, cap, HROW.out, HL.out⟩
end Go.Proofs.Ytgbhpghgohggcaa

/- Walks: slices.DeleteFunc on a row of the call's own. -/
namespace Go.Proofs.Ytgbhpghgohggcaa
open Go.RowKit

/-- a function value that tells p, in whatever world that differs in one block -/
structure TellsG {α : Type} (P : Program) (T : Ty α) (val : List Value → Value) (w : World) (row : Option Nat) (F : FuncId) (caps : Array Value) (l : List α) (p : α → Bool) : Prop where
  ent : ∀ args w, (callFunc F args).run P w = .ok (.enter F args) w
  say : ∀ (wx : World) (cs : List Value) (x : α), w.grownBy wx row → x ∈ l → T.R wx.cell? cs x → Calls P F (#[val cs] ++ caps) wx fun e w' => e = .returned (.bool (p x)) ∧ Grow wx w'
theorem TellsG.tells {α : Type} {P : Program} {T : Ty α} {val : List Value → Value} {w : World} {row : Option Nat} {F : FuncId} {caps : Array Value} {l : List α} {p : α → Bool} (h : TellsG P T val w row F caps l p) : Tells P T val w F caps l p :=
  ⟨h.ent, fun wx cs x hg => h.say wx cs x (grownBy_of_grow hg _)⟩
theorem filter_take_succ {α : Type} (q : α → Bool) {l : List α} {j : Nat} (h : j < l.length) : (l.take (j + 1)).filter q = (l.take j).filter q ++ if q l[j] then [l[j]] else [] := by
  rw [List.take_succ_eq_append_getElem h, List.filter_append]
  by_cases hq : q l[j] <;> simp [hq]
theorem filter_none {α : Type} {p : α → Bool} {l : List α} (h : l.findIdx? p = none) : l.filter (fun x => !p x) = l := by
  rw [List.findIdx?_eq_none_iff] at h
  rw [List.filter_eq_self]
  intro x hx; simp [h x hx]

set_option maxRecDepth 100000 in
set_option maxHeartbeats 1000000 in
theorem deleteFunc_pt {w : World} {base : Nat} {v : Value} {l : List Pt} {F : FuncId} {caps : Array Value} {p : Pt → Bool} (ho : OwnT Ty.pt w base 32 v l) (hp : TellsG Try.prog Ty.pt aggOf w v.ownBlock F caps l p) :
    Calls Try.prog 142 #[v, .func (.func F) #[] caps] w fun e w' => ∃ v', e = .returned v' ∧ OwnT Ty.pt w' base 32 v' (l.filter fun x => !p x) ∧ w.grownBy w' v.ownBlock ∧ v'.ownBlock = v.ownBlock := by
  have hIdx := indexFunc_pt w (ho.sl (by decide)) hp.tells
  cases hfi : l.findIdx? p with
  | none =>
    have hx : idxOf p l = -1 := by rw [idxOf, hfi]
    have HF := Lib.hid (filter_none hfi)
    rw [hx] at hIdx
    have HI := Lib.hid hIdx
    have HO := Lib.hid ho
    clear hIdx hx hfi ho hp
    go_enter Try.func142, Try.ntmps142
    go_wp2_with (go_at_call 161; refine HI.out.mono ?_; rintro e w1 ⟨rfl, hb1⟩)
    go_ret
    exact ⟨_, rfl, by rw [HF.out]; exact HO.out.grow hb1, grownBy_of_grow hb1 _, rfl⟩
  | some k =>
    have hx : idxOf p l = k := by rw [idxOf, hfi]
    rw [hx] at hIdx
    rw [List.findIdx?_eq_some_iff_getElem] at hfi
    obtain ⟨hk, hpk, hbefore⟩ := hfi
    obtain ⟨css, hown, hcl0, hR⟩ := ho
    have hcl := css_len hcl0 hR
    obtain ⟨hl, ⟨rfl, hn⟩ | ⟨g, cap, cur, rfl, hb, hg, hnc, hcm, hcs, htake⟩⟩ := id hown
    · omega
    have hbl : (Value.slice (some (⟨g, 0, none⟩ : Addr)) l.length cap).ownBlock = some g := rfl
    rw [hbl] at hR hp ⊢
    have hf0 : (l.take (k + 1)).filter (fun x => !p x) = l.take k := by
      rw [filter_take_succ _ hk, hpk]
      simp only [Bool.not_true, Bool.false_eq_true, if_false, List.append_nil]
      rw [List.filter_eq_self]
      intro x hx
      obtain ⟨j, hj, rfl⟩ := List.mem_iff_getElem.1 hx
      have := hbefore j (by simp at hj; omega)
      simpa using this
    have hkne : ((k : Int) == -1) = false := by rw [beq_eq_false_iff_ne]; omega
    have hcm' : cap ≤ 9223372036854775807 := by unfold maxLen at hcm; omega
    have HI := Lib.hid hIdx
    have HO := Lib.hid hown
    have HR := Lib.hid hR
    have HP := Lib.hid hp.say
    have eg := hp.ent
    have HF := Lib.hid hf0
    have HC := Lib.hid hcl
    have HC0 := Lib.hid hcl0
    clear hIdx hown hR hp hf0 hcl hcl0 hl hg htake hcs hb hcm hbefore hpk hx
    go_enter Try.func142, Try.ntmps142
    go_wp2_with (go_at_call 161; refine HI.out.mono ?_; rintro e w1 ⟨rfl, hb1⟩)
    go_loopw [5, 6, 7] (fun si sj _ wr => ∃ (i j : Nat) (css' : List (List Value)), i < j ∧ j ≤ l.length ∧ si = .int .i64 i ∧ sj = .int .i64 j ∧ w.grownBy wr (some g) ∧ css'.length = l.length ∧ (∀ cs ∈ css', cs.length = 3) ∧
        wr.ownsRow base 32 3 (.slice (some ⟨g, 0, none⟩) l.length cap) l.length css'.flatten ∧ css'.drop j = css.drop j ∧ ((l.take j).filter fun x => !p x).length = i ∧
        ∀ (a : Nat) (cs : List Value) (x : Pt), a < i → css'[a]? = some cs → ((l.take j).filter fun x => !p x)[a]? = some x → Ty.pt.R (frag w (some g)) cs x) (fun _ sj _ _ => l.length - (intOf sj).toNat)
    case atStart =>
      refine ⟨k, k + 1, css, by omega, by omega, rfl, by go_num, grownBy_of_grow hb1 _, HC0.out, HC.out, HO.out.kept (grownBy_of_grow hb1 none) (by right; simp [Value.ownBlock]), rfl, by rw [HF.out]; simp; omega, fun a cs x ha h1 h2 => ?_⟩
      rw [HF.out, List.getElem?_take, if_pos ha] at h2
      exact HR.out a cs x h1 h2
    case round =>
      obtain ⟨i, j, css', hij, hj', rfl, rfl, hgr, hl', hcs', hown', hdrop, hfl, hRi⟩ := hrel
      have HOWN := Lib.hid hown'
      have HCS := Lib.hid hcs'
      have HD := Lib.hid hdrop
      have HFL := Lib.hid hfl
      have HRI := Lib.hid hRi
      have HL' := Lib.hid hl'
      have HGR := Lib.hid hgr
      clear hown' hcs' hdrop hfl hRi hl' hgr hb1
      by_cases hlt : j < l.length
      · have hjc : css[j]? = some css[j]! := by rw [List.getElem?_eq_getElem (by rw [HC0.out]; exact hlt), getElem!_pos css j (by rw [HC0.out]; exact hlt)]
        obtain ⟨hcsj, hRR⟩ := HR.out j _ l[j] hjc (List.getElem?_eq_getElem hlt)
        skip
        have hjc' : css'[j]? = some css[j]! := by
          have : (css'.drop j)[0]? = (css.drop j)[0]? := by rw [HD.out]
          rw [List.getElem?_drop, List.getElem?_drop, Nat.add_zero, hjc] at this
          exact this
        rw [hcsj] at hjc hjc'
        have hcj : ∀ (t : Nat) (u : Value), (l[j].cells)[t]? = some u → t < 3 → wr.cell? ⟨g, j * 3 + t, none⟩ = some u := by
          intro t u hu ht
          rw [HOWN.out.cellAt _ (by omega), flatten_at (size := 3) (by decide) css' HCS.out, show (j * 3 + t) / 3 = j by omega, show (j * 3 + t) % 3 = t by omega, hjc']
          exact hu
        have hci : ∀ (t : Nat), t < 3 → ∃ u, wr.cell? ⟨g, i * 3 + t, none⟩ = some u := by
          intro t ht
          exact ⟨_, by rw [HOWN.out.cellAt _ (by omega)]; exact List.getElem?_eq_getElem (by rw [HOWN.out.1]; omega)⟩
        have hfz : ∀ o, wr.frozen? ⟨g, o, none⟩ = false := HOWN.out.frozenAt
        have hgl : g < wr.heap.size := (HOWN.out.lt g rfl).2
        have c0 : wr.cell? ⟨g, j * 3, none⟩ = some (.int .i64 l[j].h) := hcj 0 _ rfl (by decide)
        have c1 : wr.cell? ⟨g, j * 3 + 1, none⟩ = some (.int .i64 l[j].k) := hcj 1 _ rfl (by decide)
        have c2 : wr.cell? ⟨g, j * 3 + 2, none⟩ = some (.int .i64 l[j].n) := hcj 2 _ rfl (by decide)
        obtain ⟨u0, hu0⟩ : ∃ u, wr.cell? ⟨g, i * 3, none⟩ = some u := hci 0 (by decide)
        obtain ⟨u1, hu1⟩ : ∃ u, wr.cell? ⟨g, i * 3 + 1, none⟩ = some u := hci 1 (by decide)
        obtain ⟨u2, hu2⟩ : ∃ u, wr.cell? ⟨g, i * 3 + 2, none⟩ = some u := hci 2 (by decide)
        have hRw : Ty.pt.R (frag w (some g)) l[j].cells l[j] := ⟨rfl, hRR⟩
        have hsay := fun (W : World) (hW : Grow wr W) => HP.out W _ l[j] (grownBy_trans HGR.out (grownBy_of_grow hW _)) (List.getElem_mem _) (Ty.pt.mono (Sub.trans (frag_grown (grownBy_trans HGR.out (grownBy_of_grow hW _))) (frag_sub _ _)) hRw)
        have hstep := filter_take_succ (fun x => !p x) hlt
        have HS := Lib.hid hsay
        have HST := Lib.hid hstep
        have HRW := Lib.hid hRw
        clear hsay hstep hcj hci hRw hRR hjc hjc' hcsj
        simp only [Pt.cells, aggOf] at HS
        simp only [Pt.cells] at HRW
        cases hq : p l[j]
        · rw [hq] at HS HST
          generalize l[j] = q at *
          go_wp2_with (go_at_fn F; refine (HS.out _ ((Grow.refl wr).alloc _)).mono ?_; rintro e w1 ⟨rfl, hb1⟩; have e0 := hb1.sub ⟨wr.heap.size, 0, none⟩ _ (World.cell?_alloc_new wr _ _ 0); have e1 := hb1.sub ⟨wr.heap.size, 1, none⟩ _ (World.cell?_alloc_new wr _ _ 1); have e2 := hb1.sub ⟨wr.heap.size, 2, none⟩ _ (World.cell?_alloc_new wr _ _ 2); simp at e0 e1 e2; have d0 := (((Grow.refl wr).alloc _).trans hb1).sub _ _ hu0; have d1 := (((Grow.refl wr).alloc _).trans hb1).sub _ _ hu1; have d2 := (((Grow.refl wr).alloc _).trans hb1).sub _ _ hu2; have df : ∀ o, w1.frozen? ⟨g, o, none⟩ = false := fun o => ((((Grow.refl wr).alloc _).trans hb1).frozen (p := ⟨g, o, none⟩) hgl).trans (hfz o); have dz := hb1.size; have HB1 := Lib.hid hb1; clear hb1)
          obtain ⟨hset, hsg⟩ := owns_set (cs := [.int .i64 q.h, .int .i64 q.k, .int .i64 q.n]) (i := i) HCS.out (HOWN.out.kept (grownBy_of_grow (((Grow.refl wr).alloc _).trans HB1.out) none) (by right; simp [Value.ownBlock])) (by rw [HL'.out]; omega) rfl
          have HSET := Lib.hid hset
          have HSG := Lib.hid hsg
          clear hset hsg
          go_roundw
          case rel =>
            refine ⟨i + 1, j + 1, css'.set i [.int .i64 q.h, .int .i64 q.k, .int .i64 q.n], by omega, by omega, by go_num, by go_num, grownBy_trans (grownBy_trans HGR.out (grownBy_of_grow (((Grow.refl wr).alloc _).trans HB1.out) _)) HSG.out, by simpa using HL'.out, ?_, HSET.out, ?_, ?_, ?_⟩
            · intro cs hc
              rcases List.mem_or_eq_of_mem_set hc with h | rfl
              · exact HCS.out cs h
              · rfl
            · rw [List.drop_set_of_lt (by omega)]
              have : (css'.drop j).drop 1 = (css.drop j).drop 1 := by rw [HD.out]
              simpa [List.drop_drop] using this
            · rw [HST.out]; simp [HFL.out]
            · intro a cs x ha h1 h2
              rw [HST.out] at h2
              simp only [Bool.not_false, if_true] at h2
              by_cases hai : a < i
              · rw [List.getElem?_set_ne (by omega)] at h1
                rw [List.getElem?_append_left (by rw [HFL.out]; exact hai)] at h2
                exact HRI.out a cs x hai h1 h2
              · obtain rfl : a = i := by omega
                rw [List.getElem?_append_right (by rw [HFL.out]; omega), HFL.out, Nat.sub_self] at h2
                rw [List.getElem?_set_self (by rw [HL'.out]; omega)] at h1
                obtain rfl := Option.some.inj h1
                obtain rfl := Option.some.inj h2
                exact HRW.out
          case measure => simp [intOf]; omega
        · rw [hq] at HS HST
          generalize l[j] = q at *
          go_wp2_with (go_at_fn F; refine (HS.out _ ((Grow.refl wr).alloc _)).mono ?_; rintro e w1 ⟨rfl, hb1⟩)
          have HB1 := Lib.hid hb1
          clear hb1
          go_roundw
          case rel =>
            refine ⟨i, j + 1, css', by omega, by omega, rfl, by go_num, grownBy_trans HGR.out (grownBy_of_grow (((Grow.refl wr).alloc _).trans HB1.out) _), HL'.out, HCS.out, HOWN.out.kept (grownBy_of_grow (((Grow.refl wr).alloc _).trans HB1.out) none) (by right; simp [Value.ownBlock]), ?_, ?_, ?_⟩
            · have : (css'.drop j).drop 1 = (css.drop j).drop 1 := by rw [HD.out]
              simpa [List.drop_drop] using this
            · rw [HST.out]; simp [HFL.out]
            · intro a cs x ha h1 h2
              rw [HST.out] at h2
              simp only [Bool.not_true, Bool.false_eq_true, if_false, List.append_nil] at h2
              exact HRI.out a cs x ha h1 h2
          case measure => simp [intOf]; omega
      · obtain rfl : j = l.length := by omega
        have hic : i ≤ cap := by omega
        obtain ⟨w2, hcl, HO2, HG2⟩ := clear_run ei_pt 0 HOWN.out i (l.length - i) (cap - i) (some ⟨g, i * 3, none⟩) (by omega) (fun _ => rfl) (by omega)
        have HCL := Lib.hid hcl
        have HO2' := Lib.hid HO2
        have HG2' := Lib.hid HG2
        clear hcl HO2 HG2 eg
        have hil : i < cap := by omega
        have hil2 : i ≤ l.length := by omega
        go_wp2_with fail
        rw [HCL.out]
        go_wp2
        go_ret
        refine ⟨_, rfl, ?_, grownBy_trans HGR.out HG2'.out, rfl⟩
        have hfin : (l.filter fun x => !p x).length = i := by have := HFL.out; rw [List.take_of_length_le (Nat.le_refl _)] at this; exact this
        refine ⟨css'.take i, ?_, by rw [List.length_take, HL'.out, hfin]; omega, fun a cs x h1 h2 => ?_⟩
        · have h := HO2'.out
          rw [flatten_take css' i HCS.out] at h
          rw [hfin]; exact h
        · rw [List.getElem?_take] at h1
          split at h1
          · rename_i hai
            have h3 := HRI.out a cs x hai h1 (by rw [List.take_of_length_le (Nat.le_refl _)]; exact h2)
            exact Ty.pt.mono (frag_grown (grownBy_trans HGR.out HG2'.out)) h3
          · cases h1

set_option maxRecDepth 100000 in
set_option maxHeartbeats 1000000 in
theorem deleteFunc_opn {w : World} {base : Nat} {v : Value} {l : List Opn} {F : FuncId} {caps : Array Value} {p : Opn → Bool} (ho : OwnT Ty.opn w base 136 v l) (hp : TellsG Try.prog Ty.opn aggOf w v.ownBlock F caps l p) :
    Calls Try.prog 124 #[v, .func (.func F) #[] caps] w fun e w' => ∃ v', e = .returned v' ∧ OwnT Ty.opn w' base 136 v' (l.filter fun x => !p x) ∧ w.grownBy w' v.ownBlock ∧ v'.ownBlock = v.ownBlock := by
  have hIdx := indexFunc_opn w (ho.sl (by decide)) hp.tells
  cases hfi : l.findIdx? p with
  | none =>
    have hx : idxOf p l = -1 := by rw [idxOf, hfi]
    have HF := Lib.hid (filter_none hfi)
    rw [hx] at hIdx
    have HI := Lib.hid hIdx
    have HO := Lib.hid ho
    clear hIdx hx hfi ho hp
    go_enter Try.func124, Try.ntmps124
    go_wp2_with (go_at_call 156; refine HI.out.mono ?_; rintro e w1 ⟨rfl, hb1⟩)
    go_ret
    exact ⟨_, rfl, by rw [HF.out]; exact HO.out.grow hb1, grownBy_of_grow hb1 _, rfl⟩
  | some k =>
    have hx : idxOf p l = k := by rw [idxOf, hfi]
    rw [hx] at hIdx
    rw [List.findIdx?_eq_some_iff_getElem] at hfi
    obtain ⟨hk, hpk, hbefore⟩ := hfi
    obtain ⟨css, hown, hcl0, hR⟩ := ho
    have hcl := css_len hcl0 hR
    obtain ⟨hl, ⟨rfl, hn⟩ | ⟨g, cap, cur, rfl, hb, hg, hnc, hcm, hcs, htake⟩⟩ := id hown
    · omega
    have hbl : (Value.slice (some (⟨g, 0, none⟩ : Addr)) l.length cap).ownBlock = some g := rfl
    rw [hbl] at hR hp ⊢
    have hf0 : (l.take (k + 1)).filter (fun x => !p x) = l.take k := by
      rw [filter_take_succ _ hk, hpk]
      simp only [Bool.not_true, Bool.false_eq_true, if_false, List.append_nil]
      rw [List.filter_eq_self]
      intro x hx
      obtain ⟨j, hj, rfl⟩ := List.mem_iff_getElem.1 hx
      have := hbefore j (by simp at hj; omega)
      simpa using this
    have hkne : ((k : Int) == -1) = false := by rw [beq_eq_false_iff_ne]; omega
    have hcm' : cap ≤ 9223372036854775807 := by unfold maxLen at hcm; omega
    have HI := Lib.hid hIdx
    have HO := Lib.hid hown
    have HR := Lib.hid hR
    have HP := Lib.hid hp.say
    have eg := hp.ent
    have HF := Lib.hid hf0
    have HC := Lib.hid hcl
    have HC0 := Lib.hid hcl0
    clear hIdx hown hR hp hf0 hcl hcl0 hl hg htake hcs hb hcm hbefore hpk hx
    go_enter Try.func124, Try.ntmps124
    go_wp2_with (go_at_call 156; refine HI.out.mono ?_; rintro e w1 ⟨rfl, hb1⟩)
    go_loopw [5, 6, 7] (fun si sj _ wr => ∃ (i j : Nat) (css' : List (List Value)), i < j ∧ j ≤ l.length ∧ si = .int .i64 i ∧ sj = .int .i64 j ∧ w.grownBy wr (some g) ∧ css'.length = l.length ∧ (∀ cs ∈ css', cs.length = 4) ∧
        wr.ownsRow base 136 4 (.slice (some ⟨g, 0, none⟩) l.length cap) l.length css'.flatten ∧ css'.drop j = css.drop j ∧ ((l.take j).filter fun x => !p x).length = i ∧
        ∀ (a : Nat) (cs : List Value) (x : Opn), a < i → css'[a]? = some cs → ((l.take j).filter fun x => !p x)[a]? = some x → Ty.opn.R (frag w (some g)) cs x) (fun _ sj _ _ => l.length - (intOf sj).toNat)
    case atStart =>
      refine ⟨k, k + 1, css, by omega, by omega, rfl, by go_num, grownBy_of_grow hb1 _, HC0.out, HC.out, HO.out.kept (grownBy_of_grow hb1 none) (by right; simp [Value.ownBlock]), rfl, by rw [HF.out]; simp; omega, fun a cs x ha h1 h2 => ?_⟩
      rw [HF.out, List.getElem?_take, if_pos ha] at h2
      exact HR.out a cs x h1 h2
    case round =>
      obtain ⟨i, j, css', hij, hj', rfl, rfl, hgr, hl', hcs', hown', hdrop, hfl, hRi⟩ := hrel
      have HOWN := Lib.hid hown'
      have HCS := Lib.hid hcs'
      have HD := Lib.hid hdrop
      have HFL := Lib.hid hfl
      have HRI := Lib.hid hRi
      have HL' := Lib.hid hl'
      have HGR := Lib.hid hgr
      clear hown' hcs' hdrop hfl hRi hl' hgr hb1
      by_cases hlt : j < l.length
      · have hjc : css[j]? = some css[j]! := by rw [List.getElem?_eq_getElem (by rw [HC0.out]; exact hlt), getElem!_pos css j (by rw [HC0.out]; exact hlt)]
        obtain ⟨v1, v2, hcsj, hRR⟩ := HR.out j _ l[j] hjc (List.getElem?_eq_getElem hlt)
        obtain ⟨sa1, sc1, rfl, -⟩ := id hRR.2.1; obtain ⟨sa2, sc2, rfl, -⟩ := id hRR.2.2
        have hjc' : css'[j]? = some css[j]! := by
          have : (css'.drop j)[0]? = (css.drop j)[0]? := by rw [HD.out]
          rw [List.getElem?_drop, List.getElem?_drop, Nat.add_zero, hjc] at this
          exact this
        rw [hcsj] at hjc hjc'
        have hcj : ∀ (t : Nat) (u : Value), ([.int .i64 l[j].deed, .slice sa1 l[j].parts.length sc1, .bool l[j].dec, .slice sa2 l[j].heard.length sc2])[t]? = some u → t < 4 → wr.cell? ⟨g, j * 4 + t, none⟩ = some u := by
          intro t u hu ht
          rw [HOWN.out.cellAt _ (by omega), flatten_at (size := 4) (by decide) css' HCS.out, show (j * 4 + t) / 4 = j by omega, show (j * 4 + t) % 4 = t by omega, hjc']
          exact hu
        have hci : ∀ (t : Nat), t < 4 → ∃ u, wr.cell? ⟨g, i * 4 + t, none⟩ = some u := by
          intro t ht
          exact ⟨_, by rw [HOWN.out.cellAt _ (by omega)]; exact List.getElem?_eq_getElem (by rw [HOWN.out.1]; omega)⟩
        have hfz : ∀ o, wr.frozen? ⟨g, o, none⟩ = false := HOWN.out.frozenAt
        have hgl : g < wr.heap.size := (HOWN.out.lt g rfl).2
        have c0 : wr.cell? ⟨g, j * 4, none⟩ = some (.int .i64 l[j].deed) := hcj 0 _ rfl (by decide)
        have c1 : wr.cell? ⟨g, j * 4 + 1, none⟩ = some (.slice sa1 l[j].parts.length sc1) := hcj 1 _ rfl (by decide)
        have c2 : wr.cell? ⟨g, j * 4 + 2, none⟩ = some (.bool l[j].dec) := hcj 2 _ rfl (by decide)
        have c3 : wr.cell? ⟨g, j * 4 + 3, none⟩ = some (.slice sa2 l[j].heard.length sc2) := hcj 3 _ rfl (by decide)
        obtain ⟨u0, hu0⟩ : ∃ u, wr.cell? ⟨g, i * 4, none⟩ = some u := hci 0 (by decide)
        obtain ⟨u1, hu1⟩ : ∃ u, wr.cell? ⟨g, i * 4 + 1, none⟩ = some u := hci 1 (by decide)
        obtain ⟨u2, hu2⟩ : ∃ u, wr.cell? ⟨g, i * 4 + 2, none⟩ = some u := hci 2 (by decide)
        obtain ⟨u3, hu3⟩ : ∃ u, wr.cell? ⟨g, i * 4 + 3, none⟩ = some u := hci 3 (by decide)
        have hRw : Ty.opn.R (frag w (some g)) [.int .i64 l[j].deed, .slice sa1 l[j].parts.length sc1, .bool l[j].dec, .slice sa2 l[j].heard.length sc2] l[j] := ⟨_, _, rfl, hRR⟩
        have hsay := fun (W : World) (hW : Grow wr W) => HP.out W _ l[j] (grownBy_trans HGR.out (grownBy_of_grow hW _)) (List.getElem_mem _) (Ty.opn.mono (Sub.trans (frag_grown (grownBy_trans HGR.out (grownBy_of_grow hW _))) (frag_sub _ _)) hRw)
        have hstep := filter_take_succ (fun x => !p x) hlt
        have HS := Lib.hid hsay
        have HST := Lib.hid hstep
        have HRW := Lib.hid hRw
        clear hsay hstep hcj hci hRw hRR hjc hjc' hcsj
        simp only [aggOf] at HS
        skip
        cases hq : p l[j]
        · rw [hq] at HS HST
          generalize l[j] = q at *
          go_wp2_with (go_at_fn F; refine (HS.out _ ((Grow.refl wr).alloc _)).mono ?_; rintro e w1 ⟨rfl, hb1⟩; have e0 := hb1.sub ⟨wr.heap.size, 0, none⟩ _ (World.cell?_alloc_new wr _ _ 0); have e1 := hb1.sub ⟨wr.heap.size, 1, none⟩ _ (World.cell?_alloc_new wr _ _ 1); have e2 := hb1.sub ⟨wr.heap.size, 2, none⟩ _ (World.cell?_alloc_new wr _ _ 2); have e3 := hb1.sub ⟨wr.heap.size, 3, none⟩ _ (World.cell?_alloc_new wr _ _ 3); simp at e0 e1 e2 e3; have d0 := (((Grow.refl wr).alloc _).trans hb1).sub _ _ hu0; have d1 := (((Grow.refl wr).alloc _).trans hb1).sub _ _ hu1; have d2 := (((Grow.refl wr).alloc _).trans hb1).sub _ _ hu2; have d3 := (((Grow.refl wr).alloc _).trans hb1).sub _ _ hu3; have df : ∀ o, w1.frozen? ⟨g, o, none⟩ = false := fun o => ((((Grow.refl wr).alloc _).trans hb1).frozen (p := ⟨g, o, none⟩) hgl).trans (hfz o); have dz := hb1.size; have HB1 := Lib.hid hb1; clear hb1)
          obtain ⟨hset, hsg⟩ := owns_set (cs := [.int .i64 q.deed, .slice sa1 q.parts.length sc1, .bool q.dec, .slice sa2 q.heard.length sc2]) (i := i) HCS.out (HOWN.out.kept (grownBy_of_grow (((Grow.refl wr).alloc _).trans HB1.out) none) (by right; simp [Value.ownBlock])) (by rw [HL'.out]; omega) rfl
          have HSET := Lib.hid hset
          have HSG := Lib.hid hsg
          clear hset hsg
          go_roundw
          case rel =>
            refine ⟨i + 1, j + 1, css'.set i [.int .i64 q.deed, .slice sa1 q.parts.length sc1, .bool q.dec, .slice sa2 q.heard.length sc2], by omega, by omega, by go_num, by go_num, grownBy_trans (grownBy_trans HGR.out (grownBy_of_grow (((Grow.refl wr).alloc _).trans HB1.out) _)) HSG.out, by simpa using HL'.out, ?_, HSET.out, ?_, ?_, ?_⟩
            · intro cs hc
              rcases List.mem_or_eq_of_mem_set hc with h | rfl
              · exact HCS.out cs h
              · rfl
            · rw [List.drop_set_of_lt (by omega)]
              have : (css'.drop j).drop 1 = (css.drop j).drop 1 := by rw [HD.out]
              simpa [List.drop_drop] using this
            · rw [HST.out]; simp [HFL.out]
            · intro a cs x ha h1 h2
              rw [HST.out] at h2
              simp only [Bool.not_false, if_true] at h2
              by_cases hai : a < i
              · rw [List.getElem?_set_ne (by omega)] at h1
                rw [List.getElem?_append_left (by rw [HFL.out]; exact hai)] at h2
                exact HRI.out a cs x hai h1 h2
              · obtain rfl : a = i := by omega
                rw [List.getElem?_append_right (by rw [HFL.out]; omega), HFL.out, Nat.sub_self] at h2
                rw [List.getElem?_set_self (by rw [HL'.out]; omega)] at h1
                obtain rfl := Option.some.inj h1
                obtain rfl := Option.some.inj h2
                exact HRW.out
          case measure => simp [intOf]; omega
        · rw [hq] at HS HST
          generalize l[j] = q at *
          go_wp2_with (go_at_fn F; refine (HS.out _ ((Grow.refl wr).alloc _)).mono ?_; rintro e w1 ⟨rfl, hb1⟩)
          have HB1 := Lib.hid hb1
          clear hb1
          go_roundw
          case rel =>
            refine ⟨i, j + 1, css', by omega, by omega, rfl, by go_num, grownBy_trans HGR.out (grownBy_of_grow (((Grow.refl wr).alloc _).trans HB1.out) _), HL'.out, HCS.out, HOWN.out.kept (grownBy_of_grow (((Grow.refl wr).alloc _).trans HB1.out) none) (by right; simp [Value.ownBlock]), ?_, ?_, ?_⟩
            · have : (css'.drop j).drop 1 = (css.drop j).drop 1 := by rw [HD.out]
              simpa [List.drop_drop] using this
            · rw [HST.out]; simp [HFL.out]
            · intro a cs x ha h1 h2
              rw [HST.out] at h2
              simp only [Bool.not_true, Bool.false_eq_true, if_false, List.append_nil] at h2
              exact HRI.out a cs x ha h1 h2
          case measure => simp [intOf]; omega
      · obtain rfl : j = l.length := by omega
        have hic : i ≤ cap := by omega
        obtain ⟨w2, hcl, HO2, HG2⟩ := clear_run ei_opn 0 HOWN.out i (l.length - i) (cap - i) (some ⟨g, i * 4, none⟩) (by omega) (fun _ => rfl) (by omega)
        have HCL := Lib.hid hcl
        have HO2' := Lib.hid HO2
        have HG2' := Lib.hid HG2
        clear hcl HO2 HG2 eg
        have hil : i < cap := by omega
        have hil2 : i ≤ l.length := by omega
        go_wp2_with fail
        rw [HCL.out]
        go_wp2
        go_ret
        refine ⟨_, rfl, ?_, grownBy_trans HGR.out HG2'.out, rfl⟩
        have hfin : (l.filter fun x => !p x).length = i := by have := HFL.out; rw [List.take_of_length_le (Nat.le_refl _)] at this; exact this
        refine ⟨css'.take i, ?_, by rw [List.length_take, HL'.out, hfin]; omega, fun a cs x h1 h2 => ?_⟩
        · have h := HO2'.out
          rw [flatten_take css' i HCS.out] at h
          rw [hfin]; exact h
        · rw [List.getElem?_take] at h1
          split at h1
          · rename_i hai
            have h3 := HRI.out a cs x hai h1 (by rw [List.take_of_length_le (Nat.le_refl _)]; exact h2)
            exact Ty.opn.mono (frag_grown (grownBy_trans HGR.out HG2'.out)) h3
          · cases h1

end Go.Proofs.Ytgbhpghgohggcaa

/- Walks: Of of the program's parts. -/
namespace Go.Proofs.Ytgbhpghgohggcaa
open Go.RowKit
theorem OwnT.pts {w : World} {base e : Nat} {v : Value} {l : List Pt} (c : CM) (h : OwnT Ty.pt w base e v l) : OwnC Ty.pt c w base e v l := by
  obtain ⟨css, h1, h2, h3⟩ := h
  exact ⟨css, h1, h2, fun i cs x a b => h3 i cs x a b⟩
theorem of_lit {B : Nat} {n : Int} (wx : World) (cs : List Value) (x : Pt) (hB : B < wx.heap.size) (hc : wx.cell? ⟨B, 0, none⟩ = some (.int .i64 n)) (hR : Ty.pt.R wx.cell? cs x) :
    Calls Try.prog 143 #[.agg cs.toArray, .pointer (some ⟨B, 0, none⟩)] wx fun e w' => e = .returned (.bool (x.h != n)) ∧ Grow wx w' := by
  obtain ⟨rfl, -⟩ := hR
  obtain ⟨ph, pk, pn⟩ := x
  unfold Pt.cells
  simp only
  go_enter Try.func143, Try.ntmps143
  go_wp2
  go_ret
  exact ⟨rfl, (by repeat (first | with_reducible assumption | with_reducible exact Grow.refl _ | with_reducible apply Grow.drewN | with_reducible apply Grow.drew | with_reducible apply Grow.alloc | (refine Grow.setCell ?_ (by simp; done) _)))⟩
set_option maxHeartbeats 400000 in
theorem part_of {v : Value} {l : List Pt} {n : Int} (w : World) (hv : Pts w.cell? v l) (hm : l.length * 24 ≤ 140737488355328) :
    Calls Try.prog 85 #[v, .int .i64 n] w fun e w' => ∃ v', e = .returned v' ∧ OwnC Ty.pt (fun _ => none) w' w.heap.size 32 v' (ofL l n) ∧ Grow w w' := by
  have HOK := Lib.hid (Pts.ok hv)
  have HCL := Lib.hid (clone_pt (w.alloc (.cells #[.int .i64 n] 3)) (hv.mono ((Grow.refl w).alloc _).sub) hm)
  have HC0 : Hid ((w.alloc (.cells #[.int .i64 n] 3)).cell? ⟨w.heap.size, 0, none⟩ = some (.int .i64 n)) := Lib.hid (by rw [World.cell?_alloc_new]; rfl)
  clear hv
  go_enter Try.func85, Try.ntmps85
  go_wp2_with fail
  refine HCL.out.mono ?_
  rintro e w1 ⟨v1, rfl, hown, hb1⟩
  have hT : OwnT Ty.pt w1 (w.alloc (.cells #[.int .i64 n] 3)).heap.size 32 v1 l := OwnT.of_flat (T := Ty.pt) (f := Pt.cells) hown fun c x hx => ⟨rfl, HOK.out x hx⟩
  have hT0 : OwnC Ty.pt (fun _ => none) w1 (w.alloc (.cells #[.int .i64 n] 3)).heap.size 32 v1 l := hT.pts _
  have hlt := hT0.lt
  have hc1 : w1.cell? ⟨w.heap.size, 0, none⟩ = some (.int .i64 n) := hb1.sub _ _ HC0.out
  have hz1 : w.heap.size < w1.heap.size := by have := hb1.size; simp at this; omega
  have hne : ∀ k, v1.ownBlock = some k → w.heap.size ≠ k := fun k hk => by have := (hlt k hk).1; simp at this; omega
  have HD := Lib.hid (deleteFunc_pt hT (F := 143) (caps := #[.pointer (some ⟨w.heap.size, 0, none⟩)]) (p := fun x => x.h != n) ⟨fun args w => by kernel_rfl, fun wx cs x hg _ hR => by
    refine of_lit wx cs x (Nat.lt_of_lt_of_le hz1 hg.size) ?_ hR
    rw [World.cell?_of_block (hg.block w.heap.size hz1 (fun e => hne _ e.symm rfl))]
    exact hc1⟩)
  obtain ⟨a1, c1, rfl⟩ := hT0.form
  have HB1 := Lib.hid (((Grow.refl w).alloc (.cells #[.int .i64 n] 3)).trans hb1)
  have HLT := Lib.hid hlt
  clear hT hT0 hown hb1 hlt hc1 hz1 hne
  go_wp2_with fail
  refine HD.out.mono ?_
  rintro e w2 ⟨v2, rfl, hT2, hg2, -⟩
  have HX : Hid (OwnC Ty.pt (fun _ => none) w2 w.heap.size 32 v2 (ofL l n)) := Lib.hid (by
    have h := (hT2.pts (fun _ => none)).base (b' := w.heap.size) (by simp)
    have e : (l.filter fun x => !(x.h != n)) = ofL l n := by unfold ofL; congr 1; funext x; show (!(!(x.h == n))) = _; simp
    rw [← e]; exact h)
  have HG : Hid (Grow w w2) := Lib.hid (HB1.out.grown hg2 fun k hk => by have := (HLT.out k hk).1; simp at this; omega)
  clear hT2 hg2
  go_wp2
  go_ret
  exact ⟨_, rfl, HX.out, HG.out⟩
end Go.Proofs.Ytgbhpghgohggcaa

/- Walks: Wrong of the program's parts. -/
namespace Go.Proofs.Ytgbhpghgohggcaa
open Go.RowKit
def sameK (p q : Pt) : Bool := q.h == p.h && q.k == p.k
theorem wrong_lit {B : Nat} {p : Pt} (wx : World) (cs : List Value) (x : Pt) (hB : B < wx.heap.size) (c0 : wx.cell? ⟨B, 0, none⟩ = some (.int .i64 p.h)) (c1 : wx.cell? ⟨B, 1, none⟩ = some (.int .i64 p.k)) (hR : Ty.pt.R wx.cell? cs x) :
    Calls Try.prog 141 #[.agg cs.toArray, .pointer (some ⟨B, 0, none⟩)] wx fun e w' => e = .returned (.bool (sameK p x)) ∧ Grow wx w' := by
  obtain ⟨rfl, -⟩ := hR
  obtain ⟨ph, pk, pn⟩ := p
  obtain ⟨qh, qk, qn⟩ := x
  unfold Pt.cells sameK
  simp only at c0 c1 ⊢
  cases h1 : (qh == ph)
  · go_enter Try.func141, Try.ntmps141
    go_wp2
    go_ret
    exact ⟨rfl, (by repeat (first | with_reducible assumption | with_reducible exact Grow.refl _ | with_reducible apply Grow.drewN | with_reducible apply Grow.drew | with_reducible apply Grow.alloc | (refine Grow.setCell ?_ (by simp; done) _)))⟩
  · go_enter Try.func141, Try.ntmps141
    go_wp2
    go_ret
    exact ⟨ret_bool (by simp), (by repeat (first | with_reducible assumption | with_reducible exact Grow.refl _ | with_reducible apply Grow.drewN | with_reducible apply Grow.drew | with_reducible apply Grow.alloc | (refine Grow.setCell ?_ (by simp; done) _)))⟩
/-- pairs that were there -/
theorem any_same (l : List Pt) (p : Pt) : (l.any (sameK p)) = decide ((p.h, p.k) ∈ l.map fun q => (q.h, q.k)) := by
  rw [Bool.eq_iff_iff, List.any_eq_true, decide_eq_true_eq, List.mem_map]
  constructor
  · rintro ⟨q, hq, h⟩
    simp only [sameK, Bool.and_eq_true, beq_iff_eq] at h
    exact ⟨q, hq, by rw [h.1, h.2]⟩
  · rintro ⟨q, hq, h⟩
    simp only [Prod.mk.injEq] at h
    exact ⟨q, hq, by simp [sameK, h.1, h.2]⟩
theorem ways_pt2 (p : Pt) (h : Int) : (p.h < 0) ∨ (0 ≤ p.h ∧ h ≤ p.h) ∨ (0 ≤ p.h ∧ p.h < h ∧ p.k < 0) ∨ (0 ≤ p.h ∧ p.h < h ∧ 0 ≤ p.k ∧ 4 ≤ p.k) ∨ (0 ≤ p.h ∧ p.h < h ∧ 0 ≤ p.k ∧ p.k < 4 ∧ p.n < -1048576) ∨ (0 ≤ p.h ∧ p.h < h ∧ 0 ≤ p.k ∧ p.k < 4 ∧ -1048576 ≤ p.n ∧ 1048576 < p.n) ∨ (0 ≤ p.h ∧ p.h < h ∧ 0 ≤ p.k ∧ p.k < 4 ∧ -1048576 ≤ p.n ∧ p.n ≤ 1048576) := by omega
theorem Sl.take' {α : Type} {T : Ty α} {c : CM} {a : Option Addr} {n cap : Nat} {l : List α} (h : Sl T c (.slice a n cap) l) (m : Nat) (hm : m ≤ n) : Sl T c (.slice a m cap) (l.take m) := by
  obtain ⟨a', cap', he, h1, h2, h3, hel⟩ := h
  simp only [Value.slice.injEq] at he
  obtain ⟨rfl, rfl, rfl⟩ := he
  have hl : (l.take m).length = m := by simp; omega
  refine ⟨a, cap, by rw [hl], by rw [hl]; omega, h2, h3, fun i x e => ?_⟩
  have hi := (List.getElem?_eq_some_iff.1 e).1
  rw [List.getElem?_take_of_lt (by omega)] at e
  exact hel i x e
set_option maxRecDepth 100000 in
set_option maxHeartbeats 2000000 in
theorem part_wrong {v : Value} {l : List Pt} {h : Int} (w : World) (hv : Pts w.cell? v l) :
    Calls Try.prog 78 #[v, .int .i64 h] w fun e w' => e = .returned (.int .i64 (wrongE l h)) ∧ Grow w w' := by
  have HV := Lib.hid hv
  obtain ⟨a, cap, rfl, h1, h2, -, hel⟩ := hv
  unfold maxLen at h2
  by_cases hl0 : l.length = 0
  · have hE : wrongE l h = 5 := by simp [wrongE, hl0]
    have HE := Lib.hid hE
    have hl1 : l.length < 1 := by omega
    clear hel hE hl0
    go_enter Try.func78, Try.ntmps78
    go_wp2
    go_ret
    exact ⟨ret_int HE.out.symm, Grow.refl _⟩
  by_cases hl4 : 4 < l.length
  · have hE : wrongE l h = 5 := by rw [wrongE, if_pos (.inr hl4)]
    have HE := Lib.hid hE
    have hl1 : ¬ l.length < 1 := by omega
    clear hel hE hl0
    go_enter Try.func78, Try.ntmps78
    go_wp2
    go_ret
    exact ⟨ret_int HE.out.symm, Grow.refl _⟩
  have hE : wrongE l h = wrongGo h [] l := by rw [wrongE, if_neg (by omega)]
  have HE := Lib.hid hE
  have hl1 : ¬ l.length < 1 := by omega
  clear hE hl0
  go_enter Try.func78, Try.ntmps78
  go_wp2
  go_loopw [4, 5, 17] (fun _ _ i wr => ∃ (k : Nat), k ≤ l.length ∧ i = .int .i64 k ∧ Grow w wr ∧ wrongE l h = wrongGo h ((l.take k).map fun q => (q.h, q.k)) (l.drop k)) (fun _ _ i _ => l.length - (intOf i).toNat)
  case atStart => exact ⟨0, by omega, rfl, (by repeat (first | with_reducible assumption | with_reducible exact Grow.refl _ | with_reducible apply Grow.drewN | with_reducible apply Grow.drew | with_reducible apply Grow.alloc | (refine Grow.setCell ?_ (by simp; done) _))), HE.out⟩
  case round =>
    obtain ⟨k, hk', rfl, hb, hE⟩ := hrel
    by_cases hlt : k < l.length
    · obtain ⟨b, o, rfl, c0, c1, c2, i0, i1, i2⟩ := Pts.at_ hel k hlt
      replace c0 := hb.sub _ _ c0
      replace c1 := hb.sub _ _ c1
      replace c2 := hb.sub _ _ c2
      rw [List.drop_eq_getElem_cons hlt, wrongGo] at hE
      have hw := ways_pt2 l[k] h
      have hbad : ∀ b, decide (l[k].h < 0 ∨ h ≤ l[k].h ∨ l[k].k < 0 ∨ 3 < l[k].k ∨ 1048576 < l[k].n ∨ l[k].n < -1048576) = b → badPt l[k] h = b := fun b hb => hb
      have HB := Lib.hid hbad
      have HE2 := Lib.hid hE
      have HNX := Lib.hid (show wrongGo h ((l[k].h, l[k].k) :: (l.take k).map fun q => (q.h, q.k)) (l.drop (k + 1)) = wrongGo h ((l.take (k + 1)).map fun q => (q.h, q.k)) (l.drop (k + 1)) from wrongGo_congr h _ _ _ fun x => by
        rw [List.take_succ_eq_append_getElem hlt, List.map_append, List.mem_append, List.mem_cons, or_comm]; simp)
      have HSL := Lib.hid (HV.out.take' k hk')
      have HAN := Lib.hid (any_same (l.take k) l[k])
      clear hel hE hbad HE HV i0 i1 i2
      generalize l[k] = p at *
      obtain ⟨ph, pk, pn⟩ := p
      simp only at hw c0 c1 c2
      rcases hw with hw | ⟨w1, hw⟩ | ⟨w1, w2, hw⟩ | ⟨w1, w2, w3, hw⟩ | ⟨w1, w2, w3, w4, hw⟩ | ⟨w1, w2, w3, w4, w5, hw⟩ | ⟨w1, w2, w3, w4, w5, hw⟩
      iterate 6 (· go_wp2
                   go_ret
                   exact ⟨ret_int (by rw [HE2.out, if_pos (HB.out true (by simp only [decide_eq_true_eq]; omega))]), (by repeat (first | with_reducible assumption | with_reducible exact Grow.refl _ | with_reducible apply Grow.drewN | with_reducible apply Grow.drew | with_reducible apply Grow.alloc | (refine Grow.setCell ?_ (by simp; done) _)))⟩)
      have hnb := HB.out false (by simp only [decide_eq_false_iff_not]; omega)
      have hE3 := HE2.out
      rw [if_neg (by rw [hnb]; exact Bool.false_ne_true)] at hE3
      have HE3 := Lib.hid hE3
      clear hE3 hnb HB HE2
      have HCF := Lib.hid (containsFunc_pt (l := l.take k) (F := 141) (caps := #[.pointer (some ⟨wr.heap.size, 0, none⟩)]) (p := sameK ⟨ph, pk, pn⟩) (wr.alloc (.cells #[.int .i64 ph, .int .i64 pk, .int .i64 pn] 32)) (HSL.out.mono (hb.alloc _).sub) ⟨fun args w => by kernel_rfl, fun wx cs x hg _ hR => wrong_lit wx cs x (Nat.lt_of_lt_of_le (by simp) hg.size) (hg.sub _ _ (by rw [World.cell?_alloc_new]; rfl)) (hg.sub _ _ (by rw [World.cell?_alloc_new]; rfl)) hR⟩)
      rw [HAN.out] at HCF
      simp only at HCF
      by_cases hin : (ph, pk) ∈ (l.take k).map fun q => (q.h, q.k)
      · rw [decide_eq_true hin] at HCF
        have HI := Lib.hid hin
        clear hin HAN HSL
        go_wp2_with fail
        refine HCF.out.mono ?_
        rintro e w3 ⟨rfl, hb3⟩
        have HB3 := Lib.hid ((hb.alloc _).trans hb3)
        clear hb3
        go_wp2
        go_ret
        exact ⟨ret_int (by rw [HE3.out, if_pos HI.out]), HB3.out⟩
      · rw [decide_eq_false hin] at HCF
        have HI := Lib.hid hin
        clear hin HAN HSL
        go_wp2_with fail
        refine HCF.out.mono ?_
        rintro e w3 ⟨rfl, hb3⟩
        have HB3 := Lib.hid ((hb.alloc _).trans hb3)
        clear hb3
        go_wp2
        go_roundw
        case rel => exact ⟨k + 1, by omega, by go_num, HB3.out, by rw [HE3.out, if_neg HI.out]; exact HNX.out⟩
        case measure => simp [intOf]; omega
    · go_wp2
      go_ret
      refine ⟨ret_int ?_, hb⟩
      rw [hE, List.drop_of_length_le (by omega)]
      rfl
end Go.Proofs.Ytgbhpghgohggcaa

/- Walks: what is wrong with a message, by the program. -/
namespace Go.Proofs.Ytgbhpghgohggcaa
open Go.RowKit
theorem of_all {l : List Pt} {n : Int} : (ofL l n).length = l.length ↔ l.all (fun p => p.h == n) = true := by
  unfold ofL
  rw [List.length_filter_eq_length_iff, List.all_eq_true]
set_option maxRecDepth 100000 in
set_option maxHeartbeats 1000000 in
theorem wire_wrong {v : Value} {m : Ms} (w : World) (hv : Of Ty.ms w.cell? v m) :
    Calls Try.prog 58 #[v] w fun e w' => e = .returned (.int .i64 (wrongM m)) ∧ Grow w w' := by
  obtain ⟨ap, cp, rfl⟩ := hv.ms_form
  obtain ⟨hp, -⟩ := hv.ms_parts
  have HW := Lib.hid (fun (W : World) (hW : Grow w W) => part_wrong (h := 3) W (hp.mono hW.sub))
  have HO := Lib.hid (fun (hm : m.parts.length * 24 ≤ 140737488355328) (W : World) (hW : Grow w W) => part_of (n := m.house) W (hp.mono hW.sub) hm)
  clear hv hp
  by_cases h1 : m.kind < 1
  · have HE : Hid (wrongM m = 1) := by show wrongM m = 1; unfold wrongM; rw [if_pos (.inl h1)]
    go_enter Try.func58, Try.ntmps58
    go_wp2
    go_ret
    exact ⟨ret_int HE.out.symm, (by repeat (first | with_reducible assumption | with_reducible exact Grow.refl _ | with_reducible apply Grow.drewN | with_reducible apply Grow.drew | with_reducible apply Grow.alloc | (refine Grow.setCell ?_ (by simp; done) _)))⟩
  by_cases h2 : 7 < m.kind
  · have HE : Hid (wrongM m = 1) := by show wrongM m = 1; unfold wrongM; rw [if_pos (.inr h2)]
    go_enter Try.func58, Try.ntmps58
    go_wp2
    go_ret
    exact ⟨ret_int HE.out.symm, (by repeat (first | with_reducible assumption | with_reducible exact Grow.refl _ | with_reducible apply Grow.drewN | with_reducible apply Grow.drew | with_reducible apply Grow.alloc | (refine Grow.setCell ?_ (by simp; done) _)))⟩
  by_cases h3 : m.deed < 0
  · have HE : Hid (wrongM m = 3) := by show wrongM m = 3; unfold wrongM; rw [if_neg (by omega), if_pos (.inl h3)]
    go_enter Try.func58, Try.ntmps58
    go_wp2
    go_ret
    exact ⟨ret_int HE.out.symm, (by repeat (first | with_reducible assumption | with_reducible exact Grow.refl _ | with_reducible apply Grow.drewN | with_reducible apply Grow.drew | with_reducible apply Grow.alloc | (refine Grow.setCell ?_ (by simp; done) _)))⟩
  by_cases h4 : 1343 < m.deed
  · have HE : Hid (wrongM m = 3) := by show wrongM m = 3; unfold wrongM; rw [if_neg (by omega), if_pos (by omega)]
    go_enter Try.func58, Try.ntmps58
    go_wp2
    go_ret
    exact ⟨ret_int HE.out.symm, (by repeat (first | with_reducible assumption | with_reducible exact Grow.refl _ | with_reducible apply Grow.drewN | with_reducible apply Grow.drew | with_reducible apply Grow.alloc | (refine Grow.setCell ?_ (by simp; done) _)))⟩
  by_cases h5 : m.house < 0
  · have HE : Hid (wrongM m = 3) := by show wrongM m = 3; unfold wrongM; rw [if_neg (by omega), if_pos (by omega)]
    go_enter Try.func58, Try.ntmps58
    go_wp2
    go_ret
    exact ⟨ret_int HE.out.symm, (by repeat (first | with_reducible assumption | with_reducible exact Grow.refl _ | with_reducible apply Grow.drewN | with_reducible apply Grow.drew | with_reducible apply Grow.alloc | (refine Grow.setCell ?_ (by simp; done) _)))⟩
  by_cases h6 : 2 < m.house
  · have HE : Hid (wrongM m = 3) := by show wrongM m = 3; unfold wrongM; rw [if_neg (by omega), if_pos (by omega)]
    go_enter Try.func58, Try.ntmps58
    go_wp2
    go_ret
    exact ⟨ret_int HE.out.symm, (by repeat (first | with_reducible assumption | with_reducible exact Grow.refl _ | with_reducible apply Grow.drewN | with_reducible apply Grow.drew | with_reducible apply Grow.alloc | (refine Grow.setCell ?_ (by simp; done) _)))⟩
  by_cases h7 : 1 < m.kind
  · have hb1 : (m.kind != 1) = true := by rw [bne_iff_ne]; omega
    by_cases h8 : m.parts = []
    · have HE : Hid (wrongM m = 0) := by show wrongM m = 0; unfold wrongM; rw [if_neg (by omega), if_neg (by omega), if_pos h7, if_pos h8]
      have hl : m.parts.length = 0 := by rw [h8]; rfl
      clear h8
      generalize m.parts.length = n at *
      subst hl
      go_enter Try.func58, Try.ntmps58
      go_wp2
      go_ret
      exact ⟨ret_int HE.out.symm, (by repeat (first | with_reducible assumption | with_reducible exact Grow.refl _ | with_reducible apply Grow.drewN | with_reducible apply Grow.drew | with_reducible apply Grow.alloc | (refine Grow.setCell ?_ (by simp; done) _)))⟩
    · have HE : Hid (wrongM m = 5) := by show wrongM m = 5; unfold wrongM; rw [if_neg (by omega), if_neg (by omega), if_pos h7, if_neg h8]
      have hl : 0 < m.parts.length := List.length_pos_iff.2 h8
      clear h8
      go_enter Try.func58, Try.ntmps58
      go_wp2
      go_ret
      exact ⟨ret_int HE.out.symm, (by repeat (first | with_reducible assumption | with_reducible exact Grow.refl _ | with_reducible apply Grow.drewN | with_reducible apply Grow.drew | with_reducible apply Grow.alloc | (refine Grow.setCell ?_ (by simp; done) _)))⟩
  have hb1 : (m.kind != 1) = false := by simp; omega
  have HB : Hid (wrongM m = if wrongE m.parts 3 = 0 then (if m.parts.all (fun p => p.h == m.house) = true then 0 else 3) else wrongE m.parts 3) := by
    show wrongM m = _
    unfold wrongM
    rw [if_neg (by omega), if_neg (by omega), if_neg h7]
  by_cases h8 : wrongE m.parts 3 = 0
  · have hb : (wrongE m.parts 3 != 0) = false := by simp [h8]
    have hlen : m.parts.length ≤ 4 := (wrong_ok h8).2.1
    have HO2 := Lib.hid (HO.out (by omega))
    have HE : Hid (wrongM m = (if m.parts.all (fun p => p.h == m.house) = true then 0 else 3)) := by show wrongM m = _; rw [HB.out, if_pos h8]
    have HC := Lib.hid (of_all (l := m.parts) (n := m.house))
    have HLE : Hid ((ofL m.parts m.house).length ≤ m.parts.length) := Lib.hid (by unfold ofL; exact List.length_filter_le _ _)
    clear h8 HB hlen
    generalize wrongE m.parts 3 = we at *
    go_enter Try.func58, Try.ntmps58
    go_wp2_with fail
    refine (HW.out _ ((Grow.refl _).alloc _)).mono ?_
    rintro e w1 ⟨rfl, hbw1⟩
    have R3 := Lib.hid (row_grow (row_new w (.cells #[.int .i64 m.kind, .int .i64 m.deed, .int .i64 m.house, .slice ap m.parts.length cp] 39)) hbw1)
    have HB1 := Lib.hid (((Grow.refl w).alloc (.cells #[.int .i64 m.kind, .int .i64 m.deed, .int .i64 m.house, .slice ap m.parts.length cp] 39)).trans hbw1)
    have z3 : w.heap.size < w1.heap.size := (Array.getElem?_eq_some_iff.1 R3.out).1
    clear hbw1
    have HS : Hid (∀ W, Grow w1 W → W.cell? ⟨w.heap.size, 2, none⟩ = some (.int .i64 m.house) ∧ W.cell? ⟨w.heap.size, 3, none⟩ = some (.slice ap m.parts.length cp)) := fun W hW => by
      obtain ⟨c0, c1, c2, c3⟩ := cells4 (row_grow R3.out hW)
      exact ⟨c2, c3⟩
    have HO3 := Lib.hid (fun (W : World) (hW : Grow w1 W) => HO2.out W (HB1.out.trans hW))
    by_cases he : (ofL m.parts m.house).length = m.parts.length
    · have HE2 : Hid (wrongM m = 0) := by show wrongM m = 0; rw [HE.out, if_pos (HC.out.1 he)]
      have hb3 : (((ofL m.parts m.house).length : Int) != (m.parts.length : Int)) = false := by simp [he]
      clear he HC HE
      go_wp2
      go_region_held3 (fun w' => w'.cell? ⟨w.heap.size, 2, none⟩ = some (.int .i64 m.house) ∧ w'.cell? ⟨w.heap.size, 3, none⟩ = some (.slice ap m.parts.length cp)) (first | assumption | exact HS.out _ (by repeat (first | with_reducible assumption | with_reducible exact Grow.refl _ | with_reducible apply Grow.drewN | with_reducible apply Grow.drew | with_reducible apply Grow.alloc | (refine Grow.trans ?_ (by with_reducible assumption))))) (first | (go_at_call 85; refine (HO3.out _ (by repeat (first | with_reducible assumption | with_reducible exact Grow.refl _ | with_reducible apply Grow.drewN | with_reducible apply Grow.drew | with_reducible apply Grow.alloc | (refine Grow.trans ?_ (by with_reducible assumption))))).mono ?_; rintro e w4 ⟨v4, rfl, ho4, hb4⟩; obtain ⟨a4, k4, rfl⟩ := ho4.form; clear ho4))
      go_wp2
      go_ret
      exact ⟨ret_int HE2.out.symm, HB1.out.trans (by repeat (first | with_reducible assumption | with_reducible exact Grow.refl _ | with_reducible apply Grow.drewN | with_reducible apply Grow.drew | with_reducible apply Grow.alloc | (refine Grow.trans ?_ (by with_reducible assumption))))⟩
    · have HE2 : Hid (wrongM m = 3) := by show wrongM m = 3; rw [HE.out, if_neg (fun h => he (HC.out.2 h))]
      have hb3 : (((ofL m.parts m.house).length : Int) != (m.parts.length : Int)) = true := by rw [bne_iff_ne]; omega
      clear he HC HE
      go_wp2
      go_region_held3 (fun w' => w'.cell? ⟨w.heap.size, 2, none⟩ = some (.int .i64 m.house) ∧ w'.cell? ⟨w.heap.size, 3, none⟩ = some (.slice ap m.parts.length cp)) (first | assumption | exact HS.out _ (by repeat (first | with_reducible assumption | with_reducible exact Grow.refl _ | with_reducible apply Grow.drewN | with_reducible apply Grow.drew | with_reducible apply Grow.alloc | (refine Grow.trans ?_ (by with_reducible assumption))))) (first | (go_at_call 85; refine (HO3.out _ (by repeat (first | with_reducible assumption | with_reducible exact Grow.refl _ | with_reducible apply Grow.drewN | with_reducible apply Grow.drew | with_reducible apply Grow.alloc | (refine Grow.trans ?_ (by with_reducible assumption))))).mono ?_; rintro e w4 ⟨v4, rfl, ho4, hb4⟩; obtain ⟨a4, k4, rfl⟩ := ho4.form; clear ho4))
      go_wp2
      go_ret
      exact ⟨ret_int HE2.out.symm, HB1.out.trans (by repeat (first | with_reducible assumption | with_reducible exact Grow.refl _ | with_reducible apply Grow.drewN | with_reducible apply Grow.drew | with_reducible apply Grow.alloc | (refine Grow.trans ?_ (by with_reducible assumption))))⟩
  · have hb : (wrongE m.parts 3 != 0) = true := by simp [h8]
    have HE : Hid (wrongM m = wrongE m.parts 3) := by show wrongM m = _; rw [HB.out, if_neg h8]
    clear h8 HB
    generalize wrongE m.parts 3 = we at *
    go_enter Try.func58, Try.ntmps58
    go_wp2_with fail
    refine (HW.out _ ((Grow.refl _).alloc _)).mono ?_
    rintro e w1 ⟨rfl, hbw1⟩
    have HB1 := Lib.hid (((Grow.refl w).alloc (.cells #[.int .i64 m.kind, .int .i64 m.deed, .int .i64 m.house, .slice ap m.parts.length cp] 39)).trans hbw1)
    clear hbw1
    go_wp2
    go_ret
    exact ⟨ret_int HE.out.symm, HB1.out⟩
end Go.Proofs.Ytgbhpghgohggcaa

/- Plain readings: memory between two heights. -/
namespace Go.Proofs.Ytgbhpghgohggcaa
open Go.RowKit
/-- memory between two heights -/
def win (lo hi : Nat) (w : World) : CM := fun a => if lo ≤ a.block ∧ a.block < hi then w.cell? a else none
theorem alloc_size (w : World) (o : Obj) : (w.alloc o).heap.size = w.heap.size + 1 := by simp
theorem win_sub (lo hi : Nat) (w : World) : Sub (win lo hi w) w.cell? := fun a v e => by
  unfold win at e
  split at e
  · exact e
  · cases e
theorem win_ov (W w : World) : Sub (ov (fun _ => none) W w) (win W.heap.size w.heap.size w) := fun a v e => by
  unfold ov at e
  split at e
  · cases e
  · unfold win
    rw [if_pos ⟨by omega, World.block_lt_of_cell? w a e⟩]; exact e
theorem win_by {lo hi : Nat} {w w' : World} {row : Option Nat} (h : w.grownBy w' row) (hr : ∀ k, row = some k → k < lo ∨ hi ≤ k) : Sub (win lo hi w) (win lo hi w') := fun a v e => by
  unfold win at e ⊢
  split at e
  · rename_i hc
    rw [if_pos hc, World.cell?_of_block (h.block a.block (World.block_lt_of_cell? w a e) (fun e => by have := hr a.block e.symm; omega))]
    exact e
  · cases e
theorem win_grow {w w' : World} (h : Grow w w') (lo hi : Nat) : Sub (win lo hi w) (win lo hi w') := win_by (grownBy_of_grow h none) (fun k e => by cases e)
theorem wanted_yes {o : Oper} {y : Nat → Option Bool} {X E : Prop} {inst : Decidable (Region.wanted o y = true)} (hgd : Region.wanted o y = true) (h : X) : @ite Prop (Region.wanted o y = true) inst X E := by
  rw [if_pos hgd]
  exact h
/-- what lies between two heights lies in new memory -/
theorem win_ovn {lo hi : Nat} {w W : World} (h : w.heap.size ≤ lo) : Sub (win lo hi W) (ov (fun _ => none) w W) := fun a v e => by
  unfold win at e
  split at e
  · unfold ov
    rw [if_neg (by omega)]; exact e
  · cases e
theorem win_set {lo hi B : Nat} {w w' : World} (h : w.grownBy w' (some B)) (hb : B < lo ∨ hi ≤ B) : Sub (win lo hi w) (win lo hi w') := win_by h fun k e => by
  obtain rfl := Option.some.inj e
  exact hb
theorem cell1 {w : World} {B : Nat} {a : Value} {t : TypeId} (h : w.heap[B]? = some (.cells #[a] t (0, 0))) : w.cell? ⟨B, 0, none⟩ = some a := by simp [World.cell?, h]
end Go.Proofs.Ytgbhpghgohggcaa

/- Walks: a message out of bytes, by the program. -/
namespace Go.Proofs.Ytgbhpghgohggcaa
open Go.RowKit
theorem info_ms : (Try.prog.info? 39).map (·.size) = some 4 := by kernel_rfl
theorem of_ms0 (c : CM) : Of Ty.ms c (.agg #[.int .i64 0, .int .i64 0, .int .i64 0, .slice none 0 0]) ms0 := ⟨_, rfl, _, rfl, zero_ok, zero_ok, zero_ok, Sl.nil _ _⟩
theorem row_set4_3' {w : World} {B : Nat} {a b c d : Value} {t : TypeId} (h : w.heap[B]? = some (.cells #[a, b, c, d] t (0, 0))) (u : Value) : (w.setCell ⟨B, 3, none⟩ u).heap[B]? = some (.cells #[a, b, c, u] t (0, 0)) := by
  simp only [World.setCell, Array.getElem?_modify, h]; simp
/-- the reader at work: its own box, the message's, and the result's -/
structure RSt (w wc : World) (B6 B7 : Nat) (t : RS) (k d h : Int) (vp : Value) (ps : List Pt) : Prop where
  res : wc.heap[w.heap.size]? = some (.cells #[.int .i64 0, .int .i64 0, .int .i64 0, .slice none 0 0] 39 (0, 0))
  msg : wc.heap[B7]? = some (.cells #[.int .i64 k, .int .i64 d, .int .i64 h, vp] 39 (0, 0))
  rdr : Rdr wc B6 w.cell? t
  own : wc.ownsRow (w.heap.size + 1) 32 3 vp ps.length (ps.flatMap Pt.cells)
  grow : Grow w wc
  lo6 : w.heap.size < B6
  lo7 : w.heap.size < B7
  ne : B6 ≠ B7
  dis : ∀ q, vp.ownBlock = some q → q ≠ B6 ∧ q ≠ B7
theorem RSt.next {w wc w' : World} {B6 B7 : Nat} {t t' : RS} {k d h : Int} {vp : Value} {ps : List Pt} (r : RSt w wc B6 B7 t k d h vp ps) (hr : Rdr w' B6 w.cell? t') (hg : wc.grownBy w' (some B6)) : RSt w w' B6 B7 t' k d h vp ps where
  res := row_by r.res hg (by have := r.lo6; simp; omega)
  msg := row_by r.msg hg (by have := r.ne; simp; omega)
  rdr := hr
  own := r.own.kept hg (by
    cases e : vp.ownBlock with
    | none => exact .inl rfl
    | some q => exact .inr (by have := (r.dis q e).1; simp; omega))
  grow := r.grow.grown hg (fun q hq => by have := r.lo6; simp at hq; omega)
  lo6 := r.lo6
  lo7 := r.lo7
  ne := r.ne
  dis := r.dis
theorem RSt.part {w wc w1 w' : World} {B6 B7 : Nat} {t : RS} {k d h : Int} {vp : Value} {ps ps' : List Pt} {a' : Option Addr} {n c' : Nat} (r : RSt w wc B6 B7 t k d h vp ps) (hG : Grow wc w1) (ho : w'.ownsRow (w.heap.size + 1) 32 3 (.slice a' n c') ps'.length (ps'.flatMap Pt.cells)) (hg : w1.grownBy w' vp.ownBlock)
    (hb : (Value.slice a' n c').ownBlock = vp.ownBlock ∨ ∃ g, (Value.slice a' n c').ownBlock = some g ∧ w1.heap.size ≤ g) : RSt w (w'.setCell ⟨B7, 3, none⟩ (.slice a' n c')) B6 B7 t k d h (.slice a' n c') ps' := by
  have hlt : ∀ {B : Nat} {o : Obj}, wc.heap[B]? = some o → B < wc.heap.size := fun h => (Array.getElem?_eq_some_iff.1 h).1
  obtain ⟨ra, rc, h1, h2⟩ := r.rdr
  have z6 := hlt h1
  have z7 := hlt r.msg
  have zg := hG.size
  have hne6 : some B6 ≠ vp.ownBlock := fun e => (r.dis B6 e.symm).1 rfl
  have hne7 : some B7 ≠ vp.ownBlock := fun e => (r.dis B7 e.symm).2 rfl
  have hneR : some w.heap.size ≠ vp.ownBlock := fun e => by have := (r.own.lt _ e.symm).1; omega
  have hlo7 := r.lo7
  have hne := r.ne
  have hB : ∀ q, q ≠ B7 → (w'.setCell ⟨B7, 3, none⟩ (.slice a' n c')).heap[q]? = w'.heap[q]? := fun q hq => Below.heap_setCell _ _ _ _ (fun e => hq e)
  have hdis : ∀ q, (Value.slice a' n c').ownBlock = some q → q ≠ B6 ∧ q ≠ B7 := fun q hq => by
    rcases hb with e | ⟨g, e, hge⟩
    · exact r.dis q (e.symm.trans hq)
    · rw [e] at hq
      obtain rfl := Option.some.inj hq
      constructor <;> omega
  refine ⟨?_, ?_, ⟨ra, rc, ?_, h2⟩, ?_, ?_, r.lo6, r.lo7, r.ne, hdis⟩
  · rw [hB _ (by omega)]; exact row_by (row_grow r.res hG) hg hneR
  · exact row_set4_3' (row_by (row_grow r.msg hG) hg hne7) _
  · rw [hB _ hne]; exact row_by (row_grow h1 hG) hg hne6
  · exact owns_block ho fun q hq => hB q (hdis q hq).2
  · exact ((r.grow.trans hG).grown hg (fun q hq => by have := (r.own.lt q hq).1; omega)).setCell (by simp; omega) _
theorem sum_test {b : List UInt8} {e x y s : Nat} (hle : b.length = e + 2) (hx : b[e]'(by omega) = UInt8.ofNat x) (hy : b[e + 1]'(by omega) = UInt8.ofNat y) (hx2 : x < 256) (hy2 : y < 256) (hs : sumB (b.take e) = s) : sumOk b = decide (s = 256 * x + y) := by
  have e1 : b.getD e 0 = UInt8.ofNat x := by rw [List.getD_eq_getElem?_getD, List.getElem?_eq_getElem (by omega), hx]; rfl
  have e2 : b.getD (e + 1) 0 = UInt8.ofNat y := by rw [List.getD_eq_getElem?_getD, List.getElem?_eq_getElem (by omega), hy]; rfl
  unfold sumOk
  rw [hle, show e + 2 - 2 = e by omega, show e + 2 - 1 = e + 1 by omega, e1, e2, hs, ofNat_small hx2, ofNat_small hy2]
theorem nextN3 (s : RS) : nextN 3 s = ([(nextE s).1, (nextE (nextE s).2).1, (nextE (nextE (nextE s).2).2).1], (nextE (nextE (nextE s).2).2).2) := rfl
theorem readB_3 {b : List UInt8} (h3 : ¬ b.length < 3) (hs : sumOk b = true) {s s3 : RS} {d h n : Int} (e0 : s = ((b.take (b.length - 2)).drop 1, 0)) (e1 : nextN 3 s = ([d, h, n], s3)) :
    readB b = if s3.2 = 0 ∧ (n < 0 ∨ 4 < n) then (ms0, 5) else readP ⟨((b.getD 0 0).toNat : Nat), d, h, pairs h (nextN (2 * n.toNat) s3).1⟩ (nextN (2 * n.toNat) s3).2 := by
  rw [readB_E, if_neg h3, if_pos hs]
  unfold readE
  rw [← e0, e1]
  rfl
theorem next_zero {s : RS} (h : (nextE s).2.2 ≠ 0) : (nextE s).1 = 0 := by
  unfold nextE at h ⊢
  split
  · rfl
  · split
    · rfl
    · rename_i h1 h2
      rw [if_neg h1, if_neg h2] at h
      exact absurd rfl h
theorem I64.of_next (s : RS) : I64 (nextE s).1 := by
  have := nextE_bound s
  exact i64_of (by omega) (by omega)
theorem pairs_ok {h : Int} (hh : I64 h) (s : RS) : ∀ k, PtsOk (pairs h (nextN (2 * k) s).1)
  | 0 => fun p hp => by simp [nextN, pairs] at hp
  | k + 1 => fun p hp => by
    rw [(pairs_next h k s).1] at hp
    rcases List.mem_append.1 hp with hp | hp
    · exact pairs_ok hh s k p hp
    · simp only [List.mem_singleton] at hp
      subst hp
      exact ⟨hh, I64.of_next _, I64.of_next _⟩
theorem pairs_len (h : Int) (k : Nat) (s : RS) : (pairs h (nextN (2 * k) s).1).length = k := (nums_pairs k (nextN_len _ _)).2
set_option maxRecDepth 100000 in
set_option maxHeartbeats 4000000 in
theorem wire_read {v : Value} {b : List UInt8} (w : World) (hv : Bts w.cell? v b) :
    Calls Try.prog 59 #[v] w fun e w' => ∃ v', e = .returned (.tuple #[v', .int .i64 (readB b).2]) ∧ Of Ty.ms (ov (fun _ => none) w w') v' (readB b).1 ∧ Grow w w' := by
  have HV := Lib.hid hv
  obtain ⟨a, cap, rfl, h1, h2, -, hel⟩ := hv
  unfold maxLen at h2
  by_cases hl3 : b.length < 3
  · have HE : Hid (readB b = (ms0, 8)) := by show readB b = _; unfold readB; rw [if_pos hl3]
    have R2 := Lib.hid (row_new w (.cells #[.int .i64 0, .int .i64 0, .int .i64 0, .slice none 0 0] 39))
    have G1 := Lib.hid ((Grow.refl w).alloc (.cells #[.int .i64 0, .int .i64 0, .int .i64 0, .slice none 0 0] 39))
    clear hel
    go_enter Try.func59, Try.ntmps59
    go_wp2_with (first | (refine wpList_store_row rfl (.tmp 2) (.tmp 12) rfl rfl rfl R2.out info_ms rfl rfl ?_))
    intro w7 r7 g7
    obtain ⟨p0, p1, p2, p3⟩ := cells4 r7
    go_wp2
    refine bodyPost_ret (v := .tuple #[.agg #[.int .i64 0, .int .i64 0, .int .i64 0, .slice none 0 0], .int .i64 8]) (by simp [results, Try.results59, go_sem, p0, p1, p2, p3]) rfl ?_
    rw [HE.out]
    exact ⟨_, rfl, of_ms0 _, G1.out.grown g7 (fun q hq => by simp at hq; omega)⟩
  have HSM := Lib.hid (fun (W : World) (hW : Grow w W) => wire_sum W ((HV.out.take' (b.length - 2) (by omega)).mono hW.sub))
  obtain ⟨bb, o, rfl, c0⟩ := byteAt hel 0 (by omega)
  obtain ⟨bb', o', he, cx⟩ := byteAt hel (b.length - 2) (by omega)
  obtain ⟨rfl, rfl⟩ : bb = bb' ∧ o = o' := by simpa using he
  obtain ⟨bb', o', he', cy⟩ := byteAt hel (b.length - 1) (by omega)
  obtain ⟨rfl, rfl⟩ : bb = bb' ∧ o = o' := by simpa using he'
  clear he he' hel
  obtain ⟨e, hle⟩ : ∃ e, b.length = e + 2 := ⟨b.length - 2, by omega⟩
  obtain ⟨x, hx⟩ : ∃ x, x = (b[b.length - 2]'(by omega)).toNat := ⟨_, rfl⟩
  obtain ⟨y, hy⟩ : ∃ x, x = (b[b.length - 1]'(by omega)).toNat := ⟨_, rfl⟩
  obtain ⟨z, hz⟩ : ∃ x, x = (b[0]'(by omega)).toNat := ⟨_, rfl⟩
  obtain ⟨s, hs⟩ : ∃ s, s = sumB (b.take (b.length - 2)) := ⟨_, rfl⟩
  have hx2 : x < 256 := by rw [hx]; exact UInt8.toNat_lt _
  have hy2 : y < 256 := by rw [hy]; exact UInt8.toNat_lt _
  have hz2 : z < 256 := by rw [hz]; exact UInt8.toNat_lt _
  have hs1 : s < 65521 := by rw [hs]; exact sumB_lt _
  have hok : sumOk b = decide (s = 256 * x + y) := by
    refine sum_test (e := e) hle ?_ ?_ hx2 hy2 (by rw [hs]; congr 2; omega)
    · rw [hx]; simp [hle]
    · rw [hy]; simp [hle]
  have HZ : Hid (((b.getD 0 0).toNat : Nat) = z) := Lib.hid (by rw [hz, List.getD_eq_getElem?_getD, List.getElem?_eq_getElem (by omega)]; rfl)
  rw [← hx] at cx
  rw [← hy] at cy
  rw [← hz] at c0
  rw [← hs] at HSM
  rw [show b.length - 2 = e by omega] at cx HSM
  rw [show b.length - 1 = e + 1 by omega] at cy
  have HL3 := Lib.hid hl3
  have HSL := Lib.hid (HV.out.take' (b.length - 2) (by omega))
  rw [show b.length - 2 = e by omega] at HSL
  have HTD : Hid (b.take (b.length - 2) = b.take e) := Lib.hid (by congr 1; omega)
  have HTL : Hid ((b.take e).length = e) := Lib.hid (by rw [List.length_take]; omega)
  rw [hle] at hl3 h1 ⊢
  clear hx hy hz hs hle
  have hc1 : ¬ cap = 1 := by omega
  have hsx : (x : Int) = (s : Int) / 256 ∧ (y : Int) = (s : Int) % 256 ↔ s = 256 * x + y := by omega
  have HOK := Lib.hid hok
  clear hok
  by_cases ht : s = 256 * x + y
  · have HOT := Lib.hid (show sumOk b = true by rw [HOK.out]; exact decide_eq_true ht)
    have hbx : ((x : Int) != (s : Int) / 256) = false := by have := (hsx.2 ht).1; simp [this]
    have hby : ((y : Int) != (s : Int) % 256) = false := by have := (hsx.2 ht).2; simp [this]
    clear hsx HOK ht
    go_enter Try.func59, Try.ntmps59
    go_wp2_with fail
    refine (HSM.out _ ((Grow.refl _).alloc _)).mono ?_
    rintro e0 w1 ⟨rfl, hb1⟩
    have R2 := Lib.hid (row_grow (row_new w (.cells #[.int .i64 0, .int .i64 0, .int .i64 0, .slice none 0 0] 39)) hb1)
    have G1 := Lib.hid (((Grow.refl w).alloc (.cells #[.int .i64 0, .int .i64 0, .int .i64 0, .slice none 0 0] 39)).trans hb1)
    have HC0 := Lib.hid c0
    replace c0 := G1.out.sub _ _ c0
    replace cx := G1.out.sub _ _ cx
    replace cy := G1.out.sub _ _ cy
    have z2 : w.heap.size < w1.heap.size := (Array.getElem?_eq_some_iff.1 R2.out).1
    have Z2 := Lib.hid z2
    clear hb1
    go_wp2_with fail
    obtain ⟨wa, hwa⟩ : ∃ x : World, x = w1.alloc (.cells #[.slice (some ⟨bb, o + 1, none⟩) (e - 1) (cap - 1), .int .i64 0] 155) := ⟨_, rfl⟩
    have RA : Hid (Rdr wa w1.heap.size w.cell? ((b.take e).drop 1, 0)) := Lib.hid (by
      rw [hwa]
      have h9 := HSL.out.drop 1 (by omega)
      have e9 : ((b.take e).drop 1).length = e - 1 := by rw [List.length_drop, HTL.out]
      refine ⟨some ⟨bb, o + 1, none⟩, cap - 1, ?_, ?_⟩
      · rw [show (List.drop 1 (List.take e b), (0 : Int)).1.length = e - 1 from e9]; exact row_new _ _
      · rw [show (List.drop 1 (List.take e b), (0 : Int)).1.length = e - 1 from e9]; simpa [Ty.byte] using h9)
    have GA : Hid (Grow w wa) := Lib.hid (by rw [hwa]; exact G1.out.alloc _)
    have R2A : Hid (wa.heap[w.heap.size]? = some (.cells #[.int .i64 0, .int .i64 0, .int .i64 0, .slice none 0 0] 39 (0, 0))) := Lib.hid (by rw [hwa]; exact heap_later R2.out _)
    rw [← hwa]
    clear hwa
    obtain ⟨B6, hB6⟩ : ∃ B, B = w1.heap.size := ⟨_, rfl⟩
    rw [← hB6] at RA ⊢
    have H6 : Hid (w.heap.size < B6) := Lib.hid (by rw [hB6]; exact Z2.out)
    clear hB6 c0 cx cy hbx hby z2 Z2 R2
    go_cut [7] from 44 (fun s7 wc => ∃ B7, s7 = .pointer (some ⟨B7, 0, none⟩) ∧ RSt w wc B6 B7 (nextE (nextE ((b.take e).drop 1, 0)).2).2 z (nextE ((b.take e).drop 1, 0)).1 (nextE (nextE ((b.take e).drop 1, 0)).2).1 (.slice none 0 0) [])
    case first =>
      generalize ((b.take e).drop 1, (0 : Int)) = t0 at *
      have hzw : IntKind.i64.wrap (z : Int) = (z : Int) := IntWalk.i64_in _ (by omega)
      have he0 : (0 : Int) < (e : Int) + 2 := by omega
      have HB : Hid (∀ a u, w.cell? a = some u → a.block ≠ B6) := fun a u h9 => by have := World.block_lt_of_cell? w a h9; have := H6.out; omega

      refine but_start (fun w' => w'.cell? ⟨bb, o, none⟩ = some (.int .u8 z)) 10 (by kernel_rfl) ?_
      obtain ⟨wd, hWd⟩ : ∃ x : World, x = wa.drew := ⟨_, rfl⟩
      rw [← hWd]
      have GD : Grow wa wd := by rw [hWd]; exact (Grow.refl _).drew
      have zD : wa.heap.size = wd.heap.size := by rw [hWd]; rfl
      have ZD := Lib.hid zD
      clear hWd zD
      refine but_take (i := 0) (v := ?_) 13 rfl (by kernel_rfl) (by kernel_rfl) (by kernel_rfl) (by kernel_rfl) (by kernel_rfl) (fun _ _ _ h => h) ((GA.out.trans GD).sub _ _ HC0.out) (Or.inl ⟨by rfl, ?_⟩) ?_
      rotate_left
      · (intro w' hSw; (try dsimp only at hSw); go_simp <;> with_reducible rfl)
      try simp only [Act.put, List.getElem_toArray, List.getElem_cons_zero, List.setIfInBounds_toArray, List.set_cons_zero, List.set_cons_succ]
      refine but_take (i := 1) (v := ?_) 13 rfl (by kernel_rfl) (by kernel_rfl) (by kernel_rfl) (by kernel_rfl) (by kernel_rfl) (fun _ _ _ h => h) ((GA.out.trans GD).sub _ _ HC0.out) (Or.inl ⟨by rfl, ?_⟩) ?_
      rotate_left
      · (intro w' hSw; (try dsimp only at hSw); go_simp <;> with_reducible rfl)
      try simp only [Act.put, List.getElem_toArray, List.getElem_cons_succ, List.getElem_cons_zero, List.setIfInBounds_toArray, List.set_cons_zero, List.set_cons_succ]
      refine but_take (i := 2) (v := ?_) 13 rfl (by kernel_rfl) (by kernel_rfl) (by kernel_rfl) (by kernel_rfl) (by kernel_rfl) (fun _ _ _ h => h) ((GA.out.trans GD).sub _ _ HC0.out) (Or.inl ⟨by rfl, ?_⟩) ?_
      rotate_left
      · (intro w' hSw; (try dsimp only at hSw); go_simp <;> with_reducible rfl)
      try simp only [Act.put, List.getElem_toArray, List.getElem_cons_succ, List.getElem_cons_zero, List.setIfInBounds_toArray, List.set_cons_zero, List.set_cons_succ]
      refine but_take (i := 3) (v := ?_) 13 rfl (by kernel_rfl) (by kernel_rfl) (by kernel_rfl) (by kernel_rfl) (by kernel_rfl) (fun _ _ _ h => h) ((GA.out.trans GD).sub _ _ HC0.out) (Or.inl ⟨by rfl, ?_⟩) ?_
      rotate_left
      · (intro w' hSw; (try dsimp only at hSw); go_simp <;> with_reducible rfl)
      try simp only [Act.put, List.getElem_toArray, List.getElem_cons_succ, List.getElem_cons_zero, List.setIfInBounds_toArray, List.set_cons_zero, List.set_cons_succ]
      refine but_take (i := 4) (v := ?_) 13 rfl (by kernel_rfl) (by kernel_rfl) (by kernel_rfl) (by kernel_rfl) (by kernel_rfl) (fun _ _ _ h => h) ((GA.out.trans GD).sub _ _ HC0.out) (Or.inl ⟨by rfl, ?_⟩) ?_
      rotate_left
      · (intro w' hSw; (try dsimp only at hSw); go_simp <;> with_reducible rfl)
      try simp only [Act.put, List.getElem_toArray, List.getElem_cons_succ, List.getElem_cons_zero, List.setIfInBounds_toArray, List.set_cons_zero, List.set_cons_succ]
      refine but_take (i := 6) (v := ?_) 13 rfl (by kernel_rfl) (by kernel_rfl) (by kernel_rfl) (by kernel_rfl) (by kernel_rfl) (fun _ _ _ h => h) ((GA.out.trans GD).sub _ _ HC0.out) (Or.inl ⟨by rfl, ?_⟩) ?_
      rotate_left
      · (intro w' hSw; (try dsimp only at hSw); go_simp <;> with_reducible rfl)
      try simp only [Act.put, List.getElem_toArray, List.getElem_cons_succ, List.getElem_cons_zero, List.setIfInBounds_toArray, List.set_cons_zero, List.set_cons_succ]
      refine but_two (i := 5) (j := 9) (by kernel_rfl) rfl rfl ?_ ?_
      · skip
        intro K HK'
        have HK := Lib.hid HK'
        clear HK'
        skip
        try simp only [List.getElem_toArray, List.getElem_cons_succ, List.getElem_cons_zero]
        go_simp
        go_at_call 130
        refine (wire_next (c := w.cell?) (RA.out.grow GD) ((GA.out.trans GD)).sub).mono ?_
        rintro ec1 c1 ⟨rfl, hr, hg⟩
        have G_c1 := Lib.hid ((GA.out.trans GD).grown hg (fun q hq => by have := H6.out; simp at hq; omega))
        have R2_c1 := Lib.hid (row_by (row_grow R2A.out GD) hg (by have := H6.out; intro e9; have := Option.some.inj e9; omega))
        have RD_c1 := Lib.hid hr
        clear hr hg
        refine HK.out _ _ ⟨fun _ => G_c1.out.sub _ _ HC0.out, ?_⟩
        clear HK K
        try simp only [Act.put, List.getElem_toArray, List.getElem_cons_succ, List.getElem_cons_zero, List.setIfInBounds_toArray, List.set_cons_zero, List.set_cons_succ]
        refine but_two (i := 7) (j := 9) (by kernel_rfl) rfl rfl ?_ ?_
        · skip
          intro K HK'
          have HK := Lib.hid HK'
          clear HK'
          skip
          try simp only [List.getElem_toArray, List.getElem_cons_succ, List.getElem_cons_zero]
          go_simp
          go_at_call 130
          refine (wire_next (c := w.cell?) RD_c1.out (G_c1.out).sub).mono ?_
          rintro ec2 c2 ⟨rfl, hr, hg⟩
          have G_c2 := Lib.hid (G_c1.out.grown hg (fun q hq => by have := H6.out; simp at hq; omega))
          have R2_c2 := Lib.hid (row_by R2_c1.out hg (by have := H6.out; intro e9; have := Option.some.inj e9; omega))
          have RD_c2 := Lib.hid hr
          clear hr hg
          refine HK.out _ _ ⟨fun _ => G_c2.out.sub _ _ HC0.out, ?_⟩
          clear HK K
          try simp only [Act.put, List.getElem_toArray, List.getElem_cons_succ, List.getElem_cons_zero, List.setIfInBounds_toArray, List.set_cons_zero, List.set_cons_succ]
          refine but_two (i := 8) (j := 9) (by kernel_rfl) rfl rfl ?_ ?_
          · skip
            intro K HK'
            have HK := Lib.hid HK'
            clear HK'
            skip
            try simp only [List.getElem_toArray, List.getElem_cons_succ, List.getElem_cons_zero]
            go_simp
            refine HK.out _ _ ⟨fun _ => G_c2.out.sub _ _ HC0.out, ?_⟩
            clear HK K
            try simp only [Act.put, List.getElem_toArray, List.getElem_cons_succ, List.getElem_cons_zero, List.setIfInBounds_toArray, List.set_cons_zero, List.set_cons_succ]
            refine but_one (i := 9) (by kernel_rfl) rfl ?_
            intro K HK'
            have HK := Lib.hid HK'
            clear HK'
            skip
            try simp only [List.getElem_toArray, List.getElem_cons_succ, List.getElem_cons_zero]
            go_simp
            obtain ⟨c3, hc3⟩ : ∃ x : World, x = c2.alloc (.cells #[.int .i64 0, .int .i64 0, .int .i64 0, .slice none 0 0] 39) := ⟨_, rfl⟩
            obtain ⟨B7, hB7⟩ : ∃ B, B = c2.heap.size := ⟨_, rfl⟩
            rw [← hc3, ← hB7]
            have G_c3 : Hid (Grow w c3) := Lib.hid (by rw [hc3]; exact (G_c2.out).alloc _)
            have R2_c3 : Hid (c3.heap[w.heap.size]? = some (.cells #[.int .i64 0, .int .i64 0, .int .i64 0, .slice none 0 0] 39 (0, 0))) := Lib.hid (by rw [hc3]; exact heap_later R2_c2.out _)
            have R7_c3 : Hid (c3.heap[B7]? = some (.cells #[.int .i64 0, .int .i64 0, .int .i64 0, .slice none 0 0] 39 (0, 0))) := Lib.hid (by rw [hc3, hB7]; exact row_new _ _)
            have RD_c3 : Hid (Rdr c3 B6 w.cell? (nextE (nextE t0).2).2) := Lib.hid (by rw [hc3]; exact RD_c2.out.grow ((Grow.refl _).alloc _))
            have HNE : Hid (B6 ≠ B7 ∧ w.heap.size < B7) := Lib.hid (by obtain ⟨ra, rc, rh, -⟩ := RD_c2.out; have := (Array.getElem?_eq_some_iff.1 rh).1; have := H6.out; omega)
            clear hc3 hB7
            refine HK.out _ _ ⟨fun _ => G_c3.out.sub _ _ HC0.out, ?_⟩
            clear HK K
            try simp only [Act.put, List.getElem_toArray, List.getElem_cons_succ, List.getElem_cons_zero, List.setIfInBounds_toArray, List.set_cons_zero, List.set_cons_succ]
            refine but_one (i := 10) (by kernel_rfl) rfl ?_
            intro K HK'
            have HK := Lib.hid HK'
            clear HK'
            refine wanted_go rfl ?_
            try simp only [List.getElem_toArray, List.getElem_cons_succ, List.getElem_cons_zero]
            refine wp_store_row (.tmp 7) (.tmp 52) rfl rfl rfl R7_c3.out info_ms rfl rfl ?_
            intro wz rz gz
            refine HK.out _ _ ⟨fun h => absurd rfl h, ?_⟩
            clear HK K
            try simp only [Act.put]
            refine but_done (by kernel_rfl) ?_
            go_wp2
            go_meet
            case rel =>
              refine ⟨B7, rfl, row_by R2_c3.out gz (by have := HNE.out.2; intro e9; have := Option.some.inj e9; omega), rz, ?_, World.ownsRow_nil _ _ _ _, G_c3.out.grown gz (fun q hq => by have := HNE.out.2; simp at hq; omega), H6.out, HNE.out.2, HNE.out.1, fun q hq => by simp [Value.ownBlock] at hq⟩
              obtain ⟨ra, rc, rh, rl⟩ := RD_c3.out
              exact ⟨ra, rc, row_by rh gz (by have := HNE.out.1; intro e9; have := Option.some.inj e9; omega), rl⟩
          · skip
            intro K HK'
            have HK := Lib.hid HK'
            clear HK'
            skip
            try simp only [List.getElem_toArray, List.getElem_cons_succ, List.getElem_cons_zero]
            go_simp
            obtain ⟨c4, hc4⟩ : ∃ x : World, x = c2.alloc (.cells #[.int .i64 0, .int .i64 0, .int .i64 0, .slice none 0 0] 39) := ⟨_, rfl⟩
            obtain ⟨B7, hB7⟩ : ∃ B, B = c2.heap.size := ⟨_, rfl⟩
            rw [← hc4, ← hB7]
            have G_c4 : Hid (Grow w c4) := Lib.hid (by rw [hc4]; exact (G_c2.out).alloc _)
            have R2_c4 : Hid (c4.heap[w.heap.size]? = some (.cells #[.int .i64 0, .int .i64 0, .int .i64 0, .slice none 0 0] 39 (0, 0))) := Lib.hid (by rw [hc4]; exact heap_later R2_c2.out _)
            have R7_c4 : Hid (c4.heap[B7]? = some (.cells #[.int .i64 0, .int .i64 0, .int .i64 0, .slice none 0 0] 39 (0, 0))) := Lib.hid (by rw [hc4, hB7]; exact row_new _ _)
            have RD_c4 : Hid (Rdr c4 B6 w.cell? (nextE (nextE t0).2).2) := Lib.hid (by rw [hc4]; exact RD_c2.out.grow ((Grow.refl _).alloc _))
            have HNE : Hid (B6 ≠ B7 ∧ w.heap.size < B7) := Lib.hid (by obtain ⟨ra, rc, rh, -⟩ := RD_c2.out; have := (Array.getElem?_eq_some_iff.1 rh).1; have := H6.out; omega)
            clear hc4 hB7
            refine HK.out _ _ ⟨fun _ => G_c4.out.sub _ _ HC0.out, ?_⟩
            clear HK K
            try simp only [Act.put, List.getElem_toArray, List.getElem_cons_succ, List.getElem_cons_zero, List.setIfInBounds_toArray, List.set_cons_zero, List.set_cons_succ]
            refine but_one (i := 8) (by kernel_rfl) rfl ?_
            intro K HK'
            have HK := Lib.hid HK'
            clear HK'
            skip
            try simp only [List.getElem_toArray, List.getElem_cons_succ, List.getElem_cons_zero]
            go_simp
            refine HK.out _ _ ⟨fun _ => G_c4.out.sub _ _ HC0.out, ?_⟩
            clear HK K
            try simp only [Act.put, List.getElem_toArray, List.getElem_cons_succ, List.getElem_cons_zero, List.setIfInBounds_toArray, List.set_cons_zero, List.set_cons_succ]
            refine but_one (i := 10) (by kernel_rfl) rfl ?_
            intro K HK'
            have HK := Lib.hid HK'
            clear HK'
            refine wanted_go rfl ?_
            try simp only [List.getElem_toArray, List.getElem_cons_succ, List.getElem_cons_zero]
            refine wp_store_row (.tmp 7) (.tmp 52) rfl rfl rfl R7_c4.out info_ms rfl rfl ?_
            intro wz rz gz
            refine HK.out _ _ ⟨fun h => absurd rfl h, ?_⟩
            clear HK K
            try simp only [Act.put]
            refine but_done (by kernel_rfl) ?_
            go_wp2
            go_meet
            case rel =>
              refine ⟨B7, rfl, row_by R2_c4.out gz (by have := HNE.out.2; intro e9; have := Option.some.inj e9; omega), rz, ?_, World.ownsRow_nil _ _ _ _, G_c4.out.grown gz (fun q hq => by have := HNE.out.2; simp at hq; omega), H6.out, HNE.out.2, HNE.out.1, fun q hq => by simp [Value.ownBlock] at hq⟩
              obtain ⟨ra, rc, rh, rl⟩ := RD_c4.out
              exact ⟨ra, rc, row_by rh gz (by have := HNE.out.1; intro e9; have := Option.some.inj e9; omega), rl⟩
        · skip
          intro K HK'
          have HK := Lib.hid HK'
          clear HK'
          skip
          try simp only [List.getElem_toArray, List.getElem_cons_succ, List.getElem_cons_zero]
          go_simp
          obtain ⟨c5, hc5⟩ : ∃ x : World, x = c1.alloc (.cells #[.int .i64 0, .int .i64 0, .int .i64 0, .slice none 0 0] 39) := ⟨_, rfl⟩
          obtain ⟨B7, hB7⟩ : ∃ B, B = c1.heap.size := ⟨_, rfl⟩
          rw [← hc5, ← hB7]
          have G_c5 : Hid (Grow w c5) := Lib.hid (by rw [hc5]; exact (G_c1.out).alloc _)
          have R2_c5 : Hid (c5.heap[w.heap.size]? = some (.cells #[.int .i64 0, .int .i64 0, .int .i64 0, .slice none 0 0] 39 (0, 0))) := Lib.hid (by rw [hc5]; exact heap_later R2_c1.out _)
          have R7_c5 : Hid (c5.heap[B7]? = some (.cells #[.int .i64 0, .int .i64 0, .int .i64 0, .slice none 0 0] 39 (0, 0))) := Lib.hid (by rw [hc5, hB7]; exact row_new _ _)
          have RD_c5 : Hid (Rdr c5 B6 w.cell? (nextE t0).2) := Lib.hid (by rw [hc5]; exact RD_c1.out.grow ((Grow.refl _).alloc _))
          have HNE : Hid (B6 ≠ B7 ∧ w.heap.size < B7) := Lib.hid (by obtain ⟨ra, rc, rh, -⟩ := RD_c1.out; have := (Array.getElem?_eq_some_iff.1 rh).1; have := H6.out; omega)
          clear hc5 hB7
          refine HK.out _ _ ⟨fun _ => G_c5.out.sub _ _ HC0.out, ?_⟩
          clear HK K
          try simp only [Act.put, List.getElem_toArray, List.getElem_cons_succ, List.getElem_cons_zero, List.setIfInBounds_toArray, List.set_cons_zero, List.set_cons_succ]
          refine but_one (i := 7) (by kernel_rfl) rfl ?_
          intro K HK'
          have HK := Lib.hid HK'
          clear HK'
          skip
          try simp only [List.getElem_toArray, List.getElem_cons_succ, List.getElem_cons_zero]
          go_simp
          go_at_call 130
          refine (wire_next (c := w.cell?) RD_c5.out (G_c5.out).sub).mono ?_
          rintro ec6 c6 ⟨rfl, hr, hg⟩
          have G_c6 := Lib.hid (G_c5.out.grown hg (fun q hq => by have := H6.out; simp at hq; omega))
          have R2_c6 := Lib.hid (row_by R2_c5.out hg (by have := H6.out; intro e9; have := Option.some.inj e9; omega))
          have R7_c6 := Lib.hid (row_by R7_c5.out hg (by have := HNE.out.1; intro e9; have := Option.some.inj e9; omega))
          have RD_c6 := Lib.hid hr
          clear hr hg
          refine HK.out _ _ ⟨fun _ => G_c6.out.sub _ _ HC0.out, ?_⟩
          clear HK K
          try simp only [Act.put, List.getElem_toArray, List.getElem_cons_succ, List.getElem_cons_zero, List.setIfInBounds_toArray, List.set_cons_zero, List.set_cons_succ]
          refine but_one (i := 8) (by kernel_rfl) rfl ?_
          intro K HK'
          have HK := Lib.hid HK'
          clear HK'
          skip
          try simp only [List.getElem_toArray, List.getElem_cons_succ, List.getElem_cons_zero]
          go_simp
          refine HK.out _ _ ⟨fun _ => G_c6.out.sub _ _ HC0.out, ?_⟩
          clear HK K
          try simp only [Act.put, List.getElem_toArray, List.getElem_cons_succ, List.getElem_cons_zero, List.setIfInBounds_toArray, List.set_cons_zero, List.set_cons_succ]
          refine but_one (i := 10) (by kernel_rfl) rfl ?_
          intro K HK'
          have HK := Lib.hid HK'
          clear HK'
          refine wanted_go rfl ?_
          try simp only [List.getElem_toArray, List.getElem_cons_succ, List.getElem_cons_zero]
          refine wp_store_row (.tmp 7) (.tmp 52) rfl rfl rfl R7_c6.out info_ms rfl rfl ?_
          intro wz rz gz
          refine HK.out _ _ ⟨fun h => absurd rfl h, ?_⟩
          clear HK K
          try simp only [Act.put]
          refine but_done (by kernel_rfl) ?_
          go_wp2
          go_meet
          case rel =>
            refine ⟨B7, rfl, row_by R2_c6.out gz (by have := HNE.out.2; intro e9; have := Option.some.inj e9; omega), rz, ?_, World.ownsRow_nil _ _ _ _, G_c6.out.grown gz (fun q hq => by have := HNE.out.2; simp at hq; omega), H6.out, HNE.out.2, HNE.out.1, fun q hq => by simp [Value.ownBlock] at hq⟩
            obtain ⟨ra, rc, rh, rl⟩ := RD_c6.out
            exact ⟨ra, rc, row_by rh gz (by have := HNE.out.1; intro e9; have := Option.some.inj e9; omega), rl⟩
      · skip
        intro K HK'
        have HK := Lib.hid HK'
        clear HK'
        skip
        try simp only [List.getElem_toArray, List.getElem_cons_succ, List.getElem_cons_zero]
        go_simp
        obtain ⟨c7, hc7⟩ : ∃ x : World, x = wd.alloc (.cells #[.int .i64 0, .int .i64 0, .int .i64 0, .slice none 0 0] 39) := ⟨_, rfl⟩
        obtain ⟨B7, hB7⟩ : ∃ B, B = wd.heap.size := ⟨_, rfl⟩
        rw [← hc7, ← hB7]
        have G_c7 : Hid (Grow w c7) := Lib.hid (by rw [hc7]; exact ((GA.out.trans GD)).alloc _)
        have R2_c7 : Hid (c7.heap[w.heap.size]? = some (.cells #[.int .i64 0, .int .i64 0, .int .i64 0, .slice none 0 0] 39 (0, 0))) := Lib.hid (by rw [hc7]; exact heap_later (row_grow R2A.out GD) _)
        have R7_c7 : Hid (c7.heap[B7]? = some (.cells #[.int .i64 0, .int .i64 0, .int .i64 0, .slice none 0 0] 39 (0, 0))) := Lib.hid (by rw [hc7, hB7]; exact row_new _ _)
        have RD_c7 : Hid (Rdr c7 B6 w.cell? t0) := Lib.hid (by rw [hc7]; exact (RA.out.grow GD).grow ((Grow.refl _).alloc _))
        have HNE : Hid (B6 ≠ B7 ∧ w.heap.size < B7) := Lib.hid (by obtain ⟨ra, rc, rh, -⟩ := (RA.out.grow GD); have := (Array.getElem?_eq_some_iff.1 rh).1; have := H6.out; omega)
        clear hc7 hB7
        refine HK.out _ _ ⟨fun _ => G_c7.out.sub _ _ HC0.out, ?_⟩
        clear HK K
        try simp only [Act.put, List.getElem_toArray, List.getElem_cons_succ, List.getElem_cons_zero, List.setIfInBounds_toArray, List.set_cons_zero, List.set_cons_succ]
        refine but_one (i := 5) (by kernel_rfl) rfl ?_
        intro K HK'
        have HK := Lib.hid HK'
        clear HK'
        skip
        try simp only [List.getElem_toArray, List.getElem_cons_succ, List.getElem_cons_zero]
        go_simp
        go_at_call 130
        refine (wire_next (c := w.cell?) RD_c7.out (G_c7.out).sub).mono ?_
        rintro ec8 c8 ⟨rfl, hr, hg⟩
        have G_c8 := Lib.hid (G_c7.out.grown hg (fun q hq => by have := H6.out; simp at hq; omega))
        have R2_c8 := Lib.hid (row_by R2_c7.out hg (by have := H6.out; intro e9; have := Option.some.inj e9; omega))
        have R7_c8 := Lib.hid (row_by R7_c7.out hg (by have := HNE.out.1; intro e9; have := Option.some.inj e9; omega))
        have RD_c8 := Lib.hid hr
        clear hr hg
        refine HK.out _ _ ⟨fun _ => G_c8.out.sub _ _ HC0.out, ?_⟩
        clear HK K
        try simp only [Act.put, List.getElem_toArray, List.getElem_cons_succ, List.getElem_cons_zero, List.setIfInBounds_toArray, List.set_cons_zero, List.set_cons_succ]
        refine but_one (i := 7) (by kernel_rfl) rfl ?_
        intro K HK'
        have HK := Lib.hid HK'
        clear HK'
        skip
        try simp only [List.getElem_toArray, List.getElem_cons_succ, List.getElem_cons_zero]
        go_simp
        go_at_call 130
        refine (wire_next (c := w.cell?) RD_c8.out (G_c8.out).sub).mono ?_
        rintro ec9 c9 ⟨rfl, hr, hg⟩
        have G_c9 := Lib.hid (G_c8.out.grown hg (fun q hq => by have := H6.out; simp at hq; omega))
        have R2_c9 := Lib.hid (row_by R2_c8.out hg (by have := H6.out; intro e9; have := Option.some.inj e9; omega))
        have R7_c9 := Lib.hid (row_by R7_c8.out hg (by have := HNE.out.1; intro e9; have := Option.some.inj e9; omega))
        have RD_c9 := Lib.hid hr
        clear hr hg
        refine HK.out _ _ ⟨fun _ => G_c9.out.sub _ _ HC0.out, ?_⟩
        clear HK K
        try simp only [Act.put, List.getElem_toArray, List.getElem_cons_succ, List.getElem_cons_zero, List.setIfInBounds_toArray, List.set_cons_zero, List.set_cons_succ]
        refine but_one (i := 8) (by kernel_rfl) rfl ?_
        intro K HK'
        have HK := Lib.hid HK'
        clear HK'
        skip
        try simp only [List.getElem_toArray, List.getElem_cons_succ, List.getElem_cons_zero]
        go_simp
        refine HK.out _ _ ⟨fun _ => G_c9.out.sub _ _ HC0.out, ?_⟩
        clear HK K
        try simp only [Act.put, List.getElem_toArray, List.getElem_cons_succ, List.getElem_cons_zero, List.setIfInBounds_toArray, List.set_cons_zero, List.set_cons_succ]
        refine but_one (i := 10) (by kernel_rfl) rfl ?_
        intro K HK'
        have HK := Lib.hid HK'
        clear HK'
        refine wanted_go rfl ?_
        try simp only [List.getElem_toArray, List.getElem_cons_succ, List.getElem_cons_zero]
        refine wp_store_row (.tmp 7) (.tmp 52) rfl rfl rfl R7_c9.out info_ms rfl rfl ?_
        intro wz rz gz
        refine HK.out _ _ ⟨fun h => absurd rfl h, ?_⟩
        clear HK K
        try simp only [Act.put]
        refine but_done (by kernel_rfl) ?_
        go_wp2
        go_meet
        case rel =>
          refine ⟨B7, rfl, row_by R2_c9.out gz (by have := HNE.out.2; intro e9; have := Option.some.inj e9; omega), rz, ?_, World.ownsRow_nil _ _ _ _, G_c9.out.grown gz (fun q hq => by have := HNE.out.2; simp at hq; omega), H6.out, HNE.out.2, HNE.out.1, fun q hq => by simp [Value.ownBlock] at hq⟩
          obtain ⟨ra, rc, rh, rl⟩ := RD_c9.out
          exact ⟨ra, rc, row_by rh gz (by have := HNE.out.1; intro e9; have := Option.some.inj e9; omega), rl⟩
    case rest =>
    obtain ⟨B7, rfl, hst⟩ := hcut
    have HST := Lib.hid hst
    have HRB : Hid (readB b = if (nextE (nextE (nextE ((b.take e).drop 1, 0)).2).2).2.2 = 0 ∧ ((nextE (nextE (nextE ((b.take e).drop 1, 0)).2).2).1 < 0 ∨ 4 < (nextE (nextE (nextE ((b.take e).drop 1, 0)).2).2).1) then (ms0, 5)
      else readP ⟨z, (nextE ((b.take e).drop 1, 0)).1, (nextE (nextE ((b.take e).drop 1, 0)).2).1, pairs (nextE (nextE ((b.take e).drop 1, 0)).2).1 (nextN (2 * (nextE (nextE (nextE ((b.take e).drop 1, 0)).2).2).1.toNat) (nextE (nextE (nextE ((b.take e).drop 1, 0)).2).2).2).1⟩ (nextN (2 * (nextE (nextE (nextE ((b.take e).drop 1, 0)).2).2).1.toNat) (nextE (nextE (nextE ((b.take e).drop 1, 0)).2).2).2).2) := Lib.hid (by
      rw [readB_3 HL3.out HOT.out (s := ((b.take e).drop 1, 0)) (by rw [HTD.out]) (nextN3 _), HZ.out])
    have HID := Lib.hid (I64.of_next ((b.take e).drop 1, 0))
    have HIH := Lib.hid (I64.of_next (nextE ((b.take e).drop 1, 0)).2)
    have HIZ : Hid (I64 (z : Int)) := Lib.hid (i64_of (by omega) (by omega))
    clear hst RA GA R2A
    generalize (nextE (nextE ((b.take e).drop 1, 0)).2).1 = h at *
    generalize (nextE (nextE ((b.take e).drop 1, 0)).2).2 = t2 at *
    generalize (nextE ((b.take e).drop 1, 0)).1 = d at *
    go_wp2_with fail
    refine (wire_next (c := w.cell?) HST.out.rdr HST.out.grow.sub).mono ?_
    rintro e9 w9 ⟨rfl, hr, hg⟩
    have H9 := Lib.hid (HST.out.next hr hg)
    have hnz := next_zero (s := t2)
    have hnb := nextE_bound t2
    clear hr hg
    generalize (nextE t2).1 = n at *
    generalize (nextE t2).2 = s3 at *
    obtain ⟨ra, rc, hrow, -⟩ := H9.out.rdr
    obtain ⟨q0, q1⟩ := cells2 hrow
    have z6 : B6 < w9.heap.size := (Array.getElem?_eq_some_iff.1 hrow).1
    have R2 := Lib.hid H9.out.res
    have G9 := Lib.hid H9.out.grow
    clear hrow
    by_cases he3 : s3.2 = 0
    · have hbe : (s3.2 == 0) = true := by simp [he3]
      by_cases hn0 : n < 0
      · have HE : Hid (readB b = (ms0, 5)) := Lib.hid (by rw [HRB.out, if_pos ⟨he3, .inl hn0⟩])
        clear he3 hnz
        go_wp2_with (first | (refine wpList_store_row rfl (.tmp 2) (.tmp 68) rfl rfl rfl R2.out info_ms rfl rfl ?_))
        intro w7 r7 g7
        obtain ⟨p0, p1, p2, p3⟩ := cells4 r7
        go_wp2
        refine bodyPost_ret (v := .tuple #[.agg #[.int .i64 0, .int .i64 0, .int .i64 0, .slice none 0 0], .int .i64 5]) (by simp [results, Try.results59, go_sem, p0, p1, p2, p3]) rfl ?_
        rw [HE.out]
        exact ⟨_, rfl, of_ms0 _, G9.out.grown g7 (fun q hq => by simp at hq; omega)⟩
      by_cases hn4 : 4 < n
      · have HE : Hid (readB b = (ms0, 5)) := Lib.hid (by rw [HRB.out, if_pos ⟨he3, .inr hn4⟩])
        clear he3 hnz
        go_wp2_with (first | (refine wpList_store_row rfl (.tmp 2) (.tmp 68) rfl rfl rfl R2.out info_ms rfl rfl ?_))
        intro w7 r7 g7
        obtain ⟨p0, p1, p2, p3⟩ := cells4 r7
        go_wp2
        refine bodyPost_ret (v := .tuple #[.agg #[.int .i64 0, .int .i64 0, .int .i64 0, .slice none 0 0], .int .i64 5]) (by simp [results, Try.results59, go_sem, p0, p1, p2, p3]) rfl ?_
        rw [HE.out]
        exact ⟨_, rfl, of_ms0 _, G9.out.grown g7 (fun q hq => by simp at hq; omega)⟩
      obtain ⟨N, rfl⟩ : ∃ N : Nat, n = N := ⟨n.toNat, by omega⟩
      have HRB2 : Hid (readB b = readP ⟨z, d, h, pairs h (nextN (2 * N) s3).1⟩ (nextN (2 * N) s3).2) := Lib.hid (by rw [HRB.out, if_neg (by omega), Int.toNat_natCast])
      clear he3 hnz hnb HRB
      go_wp2
      go_loopw [70] (fun i wr => ∃ (k : Nat) (vp : Value), k ≤ N ∧ i = .int .i64 k ∧ RSt w wr B6 B7 (nextN (2 * k) s3).2 z d h vp (pairs h (nextN (2 * k) s3).1)) (fun i _ => N - (intOf i).toNat)
      case atStart => exact ⟨0, _, by omega, rfl, H9.out⟩
      case round =>
        obtain ⟨k, vp, hk', rfl, hr⟩ := hrel
        obtain ⟨ap, cp, rfl⟩ := owns_form hr.own
        have HR := Lib.hid hr
        clear q0 q1
        by_cases hlt : k < N
        · have HPN := Lib.hid (pairs_next h k s3)
          have HPK := Lib.hid (pairs_len h k s3)
          have HI1 := Lib.hid (I64.of_next (nextN (2 * k) s3).2)
          have HI2 := Lib.hid (I64.of_next (nextE (nextN (2 * k) s3).2).2)
          clear hr
          generalize (nextN (2 * k) s3).2 = t at *
          generalize pairs h (nextN (2 * k) s3).1 = ps at *
          have HS : Hid (∀ W, (∃ t' k' d', RSt w W B6 B7 t' k' d' h (.slice ap ps.length cp) ps) → W.cell? ⟨B7, 2, none⟩ = some (.int .i64 h) ∧ W.cell? ⟨B7, 3, none⟩ = some (.slice ap ps.length cp)) := fun W ⟨_, _, _, hW⟩ => by
            obtain ⟨-, -, m2, m3⟩ := cells4 hW.msg
            exact ⟨m2, m3⟩
          go_wp2
          skip
          refine but_start (fun w' => w'.cell? ⟨B7, 2, none⟩ = some (.int .i64 h) ∧ w'.cell? ⟨B7, 3, none⟩ = some (.slice ap ps.length cp)) 12 (by kernel_rfl) ?_
          obtain ⟨wd, hWd⟩ : ∃ x : World, x = wr.drew := ⟨_, rfl⟩
          rw [← hWd]
          have GD : Grow wr wd := by rw [hWd]; exact (Grow.refl _).drew
          have zD : wr.heap.size = wd.heap.size := by rw [hWd]; rfl
          have ZD := Lib.hid zD
          have RD0 : Hid (RSt w wd B6 B7 t z d h (.slice ap ps.length cp) ps) := Lib.hid (HR.out.next (HR.out.rdr.grow GD) (grownBy_of_grow GD _))
          clear hWd zD
          refine but_take (i := 0) (v := ?_) 15 rfl (by kernel_rfl) (by kernel_rfl) (by kernel_rfl) (by kernel_rfl) (by kernel_rfl) (fun _ _ _ h => h) (HS.out _ ⟨_, _, _, RD0.out⟩) (Or.inl ⟨by rfl, ?_⟩) ?_
          rotate_left
          · (intro w' hSw; (try dsimp only at hSw); obtain ⟨hs0, hs1⟩ := hSw; go_simp <;> with_reducible rfl)
          try simp only [Act.put, List.getElem_toArray, List.getElem_cons_zero, List.setIfInBounds_toArray, List.set_cons_zero, List.set_cons_succ]
          refine but_take (i := 1) (v := ?_) 15 rfl (by kernel_rfl) (by kernel_rfl) (by kernel_rfl) (by kernel_rfl) (by kernel_rfl) (fun _ _ _ h => h) (HS.out _ ⟨_, _, _, RD0.out⟩) (Or.inl ⟨by rfl, ?_⟩) ?_
          rotate_left
          · (intro w' hSw; (try dsimp only at hSw); obtain ⟨hs0, hs1⟩ := hSw; go_simp <;> with_reducible rfl)
          try simp only [Act.put, List.getElem_toArray, List.getElem_cons_succ, List.getElem_cons_zero, List.setIfInBounds_toArray, List.set_cons_zero, List.set_cons_succ]
          refine but_take (i := 2) (v := ?_) 15 rfl (by kernel_rfl) (by kernel_rfl) (by kernel_rfl) (by kernel_rfl) (by kernel_rfl) (fun _ _ _ h => h) (HS.out _ ⟨_, _, _, RD0.out⟩) (Or.inl ⟨by rfl, ?_⟩) ?_
          rotate_left
          · (intro w' hSw; (try dsimp only at hSw); obtain ⟨hs0, hs1⟩ := hSw; go_simp <;> with_reducible rfl)
          try simp only [Act.put, List.getElem_toArray, List.getElem_cons_succ, List.getElem_cons_zero, List.setIfInBounds_toArray, List.set_cons_zero, List.set_cons_succ]
          refine but_take (i := 3) (v := ?_) 15 rfl (by kernel_rfl) (by kernel_rfl) (by kernel_rfl) (by kernel_rfl) (by kernel_rfl) (fun _ _ _ h => h) (HS.out _ ⟨_, _, _, RD0.out⟩) (Or.inl ⟨by rfl, ?_⟩) ?_
          rotate_left
          · (intro w' hSw; (try dsimp only at hSw); obtain ⟨hs0, hs1⟩ := hSw; go_simp <;> with_reducible rfl)
          try simp only [Act.put, List.getElem_toArray, List.getElem_cons_succ, List.getElem_cons_zero, List.setIfInBounds_toArray, List.set_cons_zero, List.set_cons_succ]
          refine but_take (i := 4) (v := ?_) 15 rfl (by kernel_rfl) (by kernel_rfl) (by kernel_rfl) (by kernel_rfl) (by kernel_rfl) (fun _ _ _ h => h) (HS.out _ ⟨_, _, _, RD0.out⟩) (Or.inl ⟨by rfl, ?_⟩) ?_
          rotate_left
          · (intro w' hSw; (try dsimp only at hSw); obtain ⟨hs0, hs1⟩ := hSw; go_simp <;> with_reducible rfl)
          try simp only [Act.put, List.getElem_toArray, List.getElem_cons_succ, List.getElem_cons_zero, List.setIfInBounds_toArray, List.set_cons_zero, List.set_cons_succ]
          refine but_take (i := 6) (v := ?_) 15 rfl (by kernel_rfl) (by kernel_rfl) (by kernel_rfl) (by kernel_rfl) (by kernel_rfl) (fun _ _ _ h => h) (HS.out _ ⟨_, _, _, RD0.out⟩) (Or.inl ⟨by rfl, ?_⟩) ?_
          rotate_left
          · (intro w' hSw; (try dsimp only at hSw); obtain ⟨hs0, hs1⟩ := hSw; go_simp <;> with_reducible rfl)
          try simp only [Act.put, List.getElem_toArray, List.getElem_cons_succ, List.getElem_cons_zero, List.setIfInBounds_toArray, List.set_cons_zero, List.set_cons_succ]
          refine but_one (i := 5) (by kernel_rfl) rfl ?_
          intro K HK'
          have HK := Lib.hid HK'
          clear HK'
          skip
          try simp only [List.getElem_toArray, List.getElem_cons_succ, List.getElem_cons_zero]
          go_simp
          go_at_call 130
          refine (wire_next (c := w.cell?) RD0.out.rdr RD0.out.grow.sub).mono ?_
          rintro ex5 x5 ⟨rfl, hr, hg⟩
          have Sx5 := Lib.hid (RD0.out.next hr hg)
          clear hr hg
          refine HK.out _ _ ⟨fun _ => HS.out _ ⟨_, _, _, Sx5.out⟩, ?_⟩
          clear HK K
          try simp only [Act.put, List.getElem_toArray, List.getElem_cons_succ, List.getElem_cons_zero, List.setIfInBounds_toArray, List.set_cons_zero, List.set_cons_succ]
          refine but_one (i := 7) (by kernel_rfl) rfl ?_
          intro K HK'
          have HK := Lib.hid HK'
          clear HK'
          skip
          try simp only [List.getElem_toArray, List.getElem_cons_succ, List.getElem_cons_zero]
          go_simp
          go_at_call 130
          refine (wire_next (c := w.cell?) Sx5.out.rdr Sx5.out.grow.sub).mono ?_
          rintro ex7 x7 ⟨rfl, hr, hg⟩
          have Sx7 := Lib.hid (Sx5.out.next hr hg)
          clear hr hg
          refine HK.out _ _ ⟨fun _ => HS.out _ ⟨_, _, _, Sx7.out⟩, ?_⟩
          clear HK K
          try simp only [Act.put, List.getElem_toArray, List.getElem_cons_succ, List.getElem_cons_zero, List.setIfInBounds_toArray, List.set_cons_zero, List.set_cons_succ]
          refine but_one (i := 8) (by kernel_rfl) rfl ?_
          intro K HK'
          have HK := Lib.hid HK'
          clear HK'
          skip
          try simp only [List.getElem_toArray, List.getElem_cons_succ, List.getElem_cons_zero]
          go_simp
          refine HK.out _ _ ⟨fun _ => HS.out _ ⟨_, _, _, Sx7.out⟩, ?_⟩
          clear HK K
          try simp only [Act.put, List.getElem_toArray, List.getElem_cons_succ, List.getElem_cons_zero, List.setIfInBounds_toArray, List.set_cons_zero, List.set_cons_succ]
          refine but_one (i := 9) (by kernel_rfl) rfl ?_
          intro K HK'
          have HK := Lib.hid HK'
          clear HK'
          skip
          try simp only [List.getElem_toArray, List.getElem_cons_succ, List.getElem_cons_zero]
          go_simp
          obtain ⟨y9, hy9⟩ : ∃ x : World, x = x7.alloc (.cells #[.int .i64 h, .int .i64 (nextE t).1, .int .i64 (nextE (nextE t).2).1] 32) := ⟨_, rfl⟩
          have GY : Grow x7 y9 := by rw [hy9]; exact (Grow.refl _).alloc _
          have RY : y9.heap[x7.heap.size]? = some (.cells #[.int .i64 h, .int .i64 (nextE t).1, .int .i64 (nextE (nextE t).2).1] 32 (0, 0)) := by rw [hy9]; exact row_new _ _
          have HY := Lib.hid (And.intro GY RY)
          rw [← hy9]
          clear hy9 GY RY
          refine HK.out _ _ ⟨fun _ => ⟨(cells4 (row_grow Sx7.out.msg HY.out.1)).2.2.1, (cells4 (row_grow Sx7.out.msg HY.out.1)).2.2.2⟩, ?_⟩
          clear HK K
          try simp only [Act.put, List.getElem_toArray, List.getElem_cons_succ, List.getElem_cons_zero, List.setIfInBounds_toArray, List.set_cons_zero, List.set_cons_succ]
          refine but_one (i := 10) (by kernel_rfl) rfl ?_
          intro K HK'
          have HK := Lib.hid HK'
          clear HK'
          refine wanted_go rfl ?_
          try simp only [List.getElem_toArray, List.getElem_cons_succ, List.getElem_cons_zero]
          refine wp_app_any (n := ps.length) ei_pt (.tmp 73) (.tmp 81) rfl rfl (owns_grow Sx7.out.own HY.out.1) (some ⟨x7.heap.size, 0, none⟩) 1 1 [.int .i64 h, .int .i64 (nextE t).1, .int .i64 (nextE (nextE t).2).1] rfl (by simp) rfl (fun ad had j u hu => ?news) (one_pt ⟨h, (nextE t).1, (nextE (nextE t).2).1⟩) (by have := HPK.out; unfold maxLen; omega) (by have := HPK.out; omega) (by have := HY.out.1.size; have := Sx7.out.grow.size; have := (Array.getElem?_eq_some_iff.1 Sx7.out.msg).1; have := Sx7.out.lo7; omega) ?_
          case news =>
            obtain rfl := Option.some.inj had
            have h9 := cells3 HY.out.2
            rw [Addr.add_lit, Nat.zero_add]
            match j, hu with
            | 0, hu => simp at hu; rw [← hu]; exact h9.1
            | 1, hu => simp at hu; rw [← hu]; exact h9.2.1
            | 2, hu => simp at hu; rw [← hu]; exact h9.2.2
            | j + 3, hu => simp at hu
          intro a9 c9 z9 hA
          have HA := Lib.hid hA
          clear hA
          refine HK.out _ _ ⟨fun _ => ⟨(cells4 (row_by (row_grow Sx7.out.msg HY.out.1) HA.out.grown (fun e9 => (Sx7.out.dis _ e9.symm).2 rfl))).2.2.1, (cells4 (row_by (row_grow Sx7.out.msg HY.out.1) HA.out.grown (fun e9 => (Sx7.out.dis _ e9.symm).2 rfl))).2.2.2⟩, ?_⟩
          clear HK K
          try simp only [Act.put, List.setIfInBounds_toArray, List.set_cons_zero, List.set_cons_succ]
          refine but_one (i := 11) (by kernel_rfl) rfl ?_
          intro K HK'
          have HK := Lib.hid HK'
          clear HK'
          skip
          try simp only [List.getElem_toArray, List.getElem_cons_succ, List.getElem_cons_zero]
          go_simp
          refine HK.out _ _ ⟨fun _ => ⟨(cells4 (row_by (row_grow Sx7.out.msg HY.out.1) HA.out.grown (fun e9 => (Sx7.out.dis _ e9.symm).2 rfl))).2.2.1, (cells4 (row_by (row_grow Sx7.out.msg HY.out.1) HA.out.grown (fun e9 => (Sx7.out.dis _ e9.symm).2 rfl))).2.2.2⟩, ?_⟩
          clear HK K
          try simp only [Act.put, List.getElem_toArray, List.getElem_cons_succ, List.getElem_cons_zero, List.setIfInBounds_toArray, List.set_cons_zero, List.set_cons_succ]
          refine but_one (i := 12) (by kernel_rfl) rfl ?_
          intro K HK'
          have HK := Lib.hid HK'
          clear HK'
          skip
          try simp only [List.getElem_toArray, List.getElem_cons_succ, List.getElem_cons_zero]
          obtain ⟨m0, m1, m2, m3⟩ := cells4 (row_by (row_grow Sx7.out.msg HY.out.1) HA.out.grown (fun e9 => (Sx7.out.dis _ e9.symm).2 rfl))
          have f9 := row_free (row_by (row_grow Sx7.out.msg HY.out.1) HA.out.grown (fun e9 => (Sx7.out.dis _ e9.symm).2 rfl))
          go_simp
          clear m0 m1 m2 m3 f9
          refine HK.out _ _ ⟨fun h => absurd rfl h, ?_⟩
          clear HK K
          try simp only [Act.put, List.getElem_toArray, List.getElem_cons_succ, List.getElem_cons_zero, List.setIfInBounds_toArray, List.set_cons_zero, List.set_cons_succ]
          refine but_done (by kernel_rfl) ?_
          go_wp2
          go_roundw
          case rel =>
            refine ⟨k + 1, .slice a9 (ps.length + 1) c9, by omega, by go_num, ?_⟩
            rw [HPN.out.1, HPN.out.2]
            refine RSt.part (ps' := ps ++ [⟨h, (nextE t).1, (nextE (nextE t).2).1⟩]) Sx7.out HY.out.1 ?_ HA.out.grown HA.out.blk
            have h9 := HA.out.own
            simpa [Pt.cells] using h9
          case measure => simp [intOf]; omega
        · obtain rfl : k = N := by omega
          have HOP := Lib.hid (pairs_ok HIH.out s3 k)
          obtain ⟨wx, rfl⟩ : ∃ x : World, x = wr := ⟨_, rfl⟩
          clear hr
          generalize pairs h (nextN (2 * k) s3).1 = ps at *
          generalize (nextN (2 * k) s3).2 = sN at *
          obtain ⟨lN, eN⟩ := sN
          obtain ⟨rb, rd, hrow, -⟩ := HR.out.rdr
          simp only at hrow
          have RX0 := Lib.hid hrow
          have R2X0 := Lib.hid HR.out.res
          have GX0 := Lib.hid HR.out.grow
          obtain ⟨q0, q1⟩ := cells2 hrow
          have z6x : B6 < wx.heap.size := (Array.getElem?_eq_some_iff.1 hrow).1
          have f6 := row_free hrow
          clear hrow
          by_cases hN : eN = 0
          · subst hN
            by_cases hlN : lN = []
            · have HRP : Hid (readB b = if wrongM ⟨z, d, h, ps⟩ = 0 then (⟨z, d, h, ps⟩, 0) else (ms0, wrongM ⟨z, d, h, ps⟩)) := Lib.hid (by
                rw [HRB2.out]
                unfold readP
                rw [if_pos (by simp [hlN])])
              have hll : ¬ (0 : Int) < (lN.length : Int) := by rw [hlN]; simp
              obtain ⟨m0, m1, m2, m3⟩ := cells4 HR.out.msg
              have z7x : B7 < wx.heap.size := (Array.getElem?_eq_some_iff.1 HR.out.msg).1
              have HW := Lib.hid (fun (W : World) (hW : Grow wx W) => wire_wrong (m := ⟨z, d, h, ps⟩) W ⟨_, rfl, .slice ap ps.length cp, rfl, HIZ.out, HID.out, HIH.out, (Pts.of_own HR.out.own HOP.out).mono hW.sub⟩)
              clear hlN
              go_wp2_with fail
              refine (HW.out _ (Grow.refl _)).mono ?_
              rintro eq wy ⟨rfl, hby⟩
              have RY := Lib.hid (row_grow RX0.out hby)
              have R2Y := Lib.hid (row_grow R2X0.out hby)
              have RMY := Lib.hid (row_grow HR.out.msg hby)
              have OWY := Lib.hid (owns_grow HR.out.own hby)
              have GY := Lib.hid (GX0.out.trans hby)
              clear hby q0 q1 f6 m0 m1 m2 m3 z6x z7x
              obtain ⟨wx2, hwx2⟩ : ∃ x : World, x = wy.setCell ⟨B6, 1, none⟩ (.int .i64 (wrongM ⟨z, d, h, ps⟩)) := ⟨_, rfl⟩
              have GS : Hid (wy.grownBy wx2 (some B6)) := Lib.hid (by rw [hwx2]; exact grownBy_setCell wy ⟨B6, 1, none⟩ _)
              have RX : Hid (wx2.heap[B6]? = some (.cells #[.slice rb lN.length rd, .int .i64 (wrongM ⟨z, d, h, ps⟩)] 155 (0, 0))) := Lib.hid (by rw [hwx2]; exact row_set2_1 RY.out _)
              have R2X := Lib.hid (row_by R2Y.out GS.out (by have := H9.out.lo6; intro e9; have := Option.some.inj e9; omega))
              have RMX := Lib.hid (row_by RMY.out GS.out (by have := H9.out.ne; intro e9; have := Option.some.inj e9; omega))
              have OWX := Lib.hid (OWY.out.kept GS.out (by
                cases e9 : (Value.slice ap ps.length cp).ownBlock with
                | none => exact .inl rfl
                | some q => exact .inr (by have := (HR.out.dis q e9).1; intro e8; have := Option.some.inj e8; omega)))
              have GX := Lib.hid (GY.out.grown GS.out (fun q hq => by have := H9.out.lo6; simp at hq; omega))
              obtain ⟨q0, q1⟩ := cells2 RY.out
              have z6y : B6 < wy.heap.size := (Array.getElem?_eq_some_iff.1 RY.out).1
              have f6 := row_free RY.out
              by_cases hwr : wrongM ⟨z, d, h, ps⟩ = 0
              · have HE : Hid (readB b = (⟨z, d, h, ps⟩, 0)) := Lib.hid (by rw [HRP.out, if_pos hwr])
                have hbw : (wrongM ⟨z, d, h, ps⟩ != 0) = false := by simp [hwr]
                clear hwr
                generalize wrongM ⟨z, d, h, ps⟩ = er at *
                go_upto_region 20 with fail
                rw [← hwx2]
                clear hwx2 q0 q1 f6
                obtain ⟨q0, q1⟩ := cells2 RX.out
                obtain ⟨m0, m1, m2, m3⟩ := cells4 RMX.out
                have z7x : B7 < wx2.heap.size := (Array.getElem?_eq_some_iff.1 RMX.out).1
                have z6z : B6 < wx2.heap.size := (Array.getElem?_eq_some_iff.1 RX.out).1
                go_wp2_with (first | (refine wpList_store_row rfl (.tmp 2) (.tmp 121) rfl rfl rfl R2X.out info_ms rfl rfl ?_))
                intro w7 r7 g7
                obtain ⟨p0, p1, p2, p3⟩ := cells4 r7
                clear q0 q1 m0 m1 m2 m3
                go_wp2
                refine bodyPost_ret (v := .tuple #[.agg #[.int .i64 z, .int .i64 d, .int .i64 h, .slice ap ps.length cp], .int .i64 0]) (by simp [results, Try.results59, go_sem, p0, p1, p2, p3]) rfl ?_
                rw [HE.out]
                refine ⟨_, rfl, ⟨_, rfl, _, rfl, HIZ.out, HID.out, HIH.out, ?_⟩, GX.out.grown g7 (fun q hq => by simp at hq; omega)⟩
                have h9 := OwnC.pts (c := fun _ => none) (OWX.out.kept g7 (by
                  cases e9 : (Value.slice ap ps.length cp).ownBlock with
                  | none => exact .inl rfl
                  | some q => exact .inr (by have := (OWX.out.lt q e9).1; intro e8; have := Option.some.inj e8; omega))) HOP.out
                exact h9.slc (by decide) (fun _ _ e9 => by cases e9) (fun a9 ha => ov_new (by omega))
              · have HE : Hid (readB b = (ms0, wrongM ⟨z, d, h, ps⟩)) := Lib.hid (by rw [HRP.out, if_neg hwr])
                have hbw : (wrongM ⟨z, d, h, ps⟩ != 0) = true := by simp [hwr]
                clear hwr
                generalize wrongM ⟨z, d, h, ps⟩ = er at *
                go_upto_region 20 with fail
                rw [← hwx2]
                clear hwx2 q0 q1 f6
                obtain ⟨wx, rfl⟩ : ∃ x : World, x = wx2 := ⟨_, rfl⟩
                obtain ⟨q0, q1⟩ := cells2 RX.out
                have z6z : B6 < wx.heap.size := (Array.getElem?_eq_some_iff.1 RX.out).1
                go_wp2_with fail
                clear q0 q1
                refine but_start (fun w' => w'.cell? ⟨B6, 1, none⟩ = some (.int .i64 (er))) 6 (by kernel_rfl) ?_
                obtain ⟨wd, hWd⟩ : ∃ x : World, x = wx.drew := ⟨_, rfl⟩
                rw [← hWd]
                have GD : Grow wx wd := by rw [hWd]; exact (Grow.refl _).drew
                have zD : wx.heap.size = wd.heap.size := by rw [hWd]; rfl
                have ZD := Lib.hid zD
                clear hWd zD
                refine but_take (i := 0) (v := ?_) 9 rfl (by kernel_rfl) (by kernel_rfl) (by kernel_rfl) (by kernel_rfl) (by kernel_rfl) (fun _ _ _ h => h) ((cells2 (row_grow RX.out GD)).2) (Or.inl ⟨by rfl, ?_⟩) ?_
                rotate_left
                · (intro w' hSw; (try dsimp only at hSw); go_simp <;> with_reducible rfl)
                try simp only [Act.put, List.getElem_toArray, List.getElem_cons_zero, List.setIfInBounds_toArray, List.set_cons_zero, List.set_cons_succ]
                refine but_take (i := 1) (v := ?_) 9 rfl (by kernel_rfl) (by kernel_rfl) (by kernel_rfl) (by kernel_rfl) (by kernel_rfl) (fun _ _ _ h => h) ((cells2 (row_grow RX.out GD)).2) (Or.inl ⟨by rfl, ?_⟩) ?_
                rotate_left
                · (intro w' hSw; (try dsimp only at hSw); go_simp <;> with_reducible rfl)
                try simp only [Act.put, List.getElem_toArray, List.getElem_cons_succ, List.getElem_cons_zero, List.setIfInBounds_toArray, List.set_cons_zero, List.set_cons_succ]
                refine but_take (i := 2) (v := ?_) 9 rfl (by kernel_rfl) (by kernel_rfl) (by kernel_rfl) (by kernel_rfl) (by kernel_rfl) (fun _ _ _ h => h) ((cells2 (row_grow RX.out GD)).2) (Or.inl ⟨by rfl, ?_⟩) ?_
                rotate_left
                · (intro w' hSw; (try dsimp only at hSw); go_simp <;> with_reducible rfl)
                try simp only [Act.put, List.getElem_toArray, List.getElem_cons_succ, List.getElem_cons_zero, List.setIfInBounds_toArray, List.set_cons_zero, List.set_cons_succ]
                refine but_take (i := 3) (v := ?_) 9 rfl (by kernel_rfl) (by kernel_rfl) (by kernel_rfl) (by kernel_rfl) (by kernel_rfl) (fun _ _ _ h => h) ((cells2 (row_grow RX.out GD)).2) (Or.inl ⟨by rfl, ?_⟩) ?_
                rotate_left
                · (intro w' hSw; (try dsimp only at hSw); go_simp <;> with_reducible rfl)
                try simp only [Act.put, List.getElem_toArray, List.getElem_cons_succ, List.getElem_cons_zero, List.setIfInBounds_toArray, List.set_cons_zero, List.set_cons_succ]
                refine but_take (i := 4) (v := ?_) 9 rfl (by kernel_rfl) (by kernel_rfl) (by kernel_rfl) (by kernel_rfl) (by kernel_rfl) (fun _ _ _ h => h) ((cells2 (row_grow RX.out GD)).2) (Or.inl ⟨by rfl, ?_⟩) ?_
                rotate_left
                · (intro w' hSw; (try dsimp only at hSw); go_simp <;> with_reducible rfl)
                try simp only [Act.put, List.getElem_toArray, List.getElem_cons_succ, List.getElem_cons_zero, List.setIfInBounds_toArray, List.set_cons_zero, List.set_cons_succ]
                refine but_one (i := 5) (by kernel_rfl) rfl ?_
                intro K HK'
                have HK := Lib.hid HK'
                clear HK'
                refine wanted_go rfl ?_
                try simp only [List.getElem_toArray, List.getElem_cons_succ, List.getElem_cons_zero]
                refine wp_store_row (.tmp 2) (.tmp 116) rfl rfl rfl (row_grow R2X.out GD) info_ms rfl rfl ?_
                intro w7 r7 g7
                refine HK.out _ _ ⟨fun _ => (cells2 (row_by (row_grow RX.out GD) g7 (by have := H9.out.lo6; intro e9; have := Option.some.inj e9; omega))).2, ?_⟩
                clear HK K
                try simp only [Act.put]
                refine but_one (i := 6) (by kernel_rfl) rfl ?_
                intro K HK'
                have HK := Lib.hid HK'
                clear HK'
                skip
                try simp only [List.getElem_toArray, List.getElem_cons_succ, List.getElem_cons_zero]
                go_simp
                refine HK.out _ _ ⟨fun h => absurd rfl h, ?_⟩
                clear HK K
                try simp only [Act.put, List.getElem_toArray, List.getElem_cons_succ, List.getElem_cons_zero, List.setIfInBounds_toArray, List.set_cons_zero, List.set_cons_succ]
                refine but_done (by kernel_rfl) ?_
                obtain ⟨p0, p1, p2, p3⟩ := cells4 r7
                go_wp2
                refine bodyPost_ret (v := .tuple #[.agg #[.int .i64 0, .int .i64 0, .int .i64 0, .slice none 0 0], .int .i64 (er)]) (by simp [results, Try.results59, go_sem, p0, p1, p2, p3]) rfl ?_
                rw [HE.out]
                exact ⟨_, rfl, of_ms0 _, (GX.out.trans GD).grown g7 (fun q hq => by simp at hq; omega)⟩
            · have HE : Hid (readB b = (ms0, 2)) := Lib.hid (by
                rw [HRB2.out]
                unfold readP
                rw [if_neg (by simp [hlN])]
                simp [hlN])
              have hll : (0 : Int) < (lN.length : Int) := by have := List.length_pos_iff.2 hlN; omega
              obtain ⟨wx2, hwx2⟩ : ∃ x : World, x = wx.setCell ⟨B6, 1, none⟩ (.int .i64 2) := ⟨_, rfl⟩
              have GS : Hid (wx.grownBy wx2 (some B6)) := Lib.hid (by rw [hwx2]; exact grownBy_setCell wx ⟨B6, 1, none⟩ _)
              have RX : Hid (wx2.heap[B6]? = some (.cells #[.slice rb lN.length rd, .int .i64 2] 155 (0, 0))) := Lib.hid (by rw [hwx2]; exact row_set2_1 RX0.out _)
              have R2X := Lib.hid (row_by R2X0.out GS.out (by have := H9.out.lo6; intro e9; have := Option.some.inj e9; omega))
              have GX := Lib.hid (GX0.out.grown GS.out (fun q hq => by have := H9.out.lo6; simp at hq; omega))
              clear hlN
              go_upto_region 18 with fail
              rw [← hwx2]
              clear hwx2 q0 q1 f6 z6x
              obtain ⟨wx, rfl⟩ : ∃ x : World, x = wx2 := ⟨_, rfl⟩
              obtain ⟨q0, q1⟩ := cells2 RX.out
              have z6z : B6 < wx.heap.size := (Array.getElem?_eq_some_iff.1 RX.out).1
              go_wp2_with fail
              clear q0 q1
              refine but_start (fun w' => w'.cell? ⟨B6, 1, none⟩ = some (.int .i64 (2))) 6 (by kernel_rfl) ?_
              obtain ⟨wd, hWd⟩ : ∃ x : World, x = wx.drew := ⟨_, rfl⟩
              rw [← hWd]
              have GD : Grow wx wd := by rw [hWd]; exact (Grow.refl _).drew
              have zD : wx.heap.size = wd.heap.size := by rw [hWd]; rfl
              have ZD := Lib.hid zD
              clear hWd zD
              refine but_take (i := 0) (v := ?_) 9 rfl (by kernel_rfl) (by kernel_rfl) (by kernel_rfl) (by kernel_rfl) (by kernel_rfl) (fun _ _ _ h => h) ((cells2 (row_grow RX.out GD)).2) (Or.inl ⟨by rfl, ?_⟩) ?_
              rotate_left
              · (intro w' hSw; (try dsimp only at hSw); go_simp <;> with_reducible rfl)
              try simp only [Act.put, List.getElem_toArray, List.getElem_cons_zero, List.setIfInBounds_toArray, List.set_cons_zero, List.set_cons_succ]
              refine but_take (i := 1) (v := ?_) 9 rfl (by kernel_rfl) (by kernel_rfl) (by kernel_rfl) (by kernel_rfl) (by kernel_rfl) (fun _ _ _ h => h) ((cells2 (row_grow RX.out GD)).2) (Or.inl ⟨by rfl, ?_⟩) ?_
              rotate_left
              · (intro w' hSw; (try dsimp only at hSw); go_simp <;> with_reducible rfl)
              try simp only [Act.put, List.getElem_toArray, List.getElem_cons_succ, List.getElem_cons_zero, List.setIfInBounds_toArray, List.set_cons_zero, List.set_cons_succ]
              refine but_take (i := 2) (v := ?_) 9 rfl (by kernel_rfl) (by kernel_rfl) (by kernel_rfl) (by kernel_rfl) (by kernel_rfl) (fun _ _ _ h => h) ((cells2 (row_grow RX.out GD)).2) (Or.inl ⟨by rfl, ?_⟩) ?_
              rotate_left
              · (intro w' hSw; (try dsimp only at hSw); go_simp <;> with_reducible rfl)
              try simp only [Act.put, List.getElem_toArray, List.getElem_cons_succ, List.getElem_cons_zero, List.setIfInBounds_toArray, List.set_cons_zero, List.set_cons_succ]
              refine but_take (i := 3) (v := ?_) 9 rfl (by kernel_rfl) (by kernel_rfl) (by kernel_rfl) (by kernel_rfl) (by kernel_rfl) (fun _ _ _ h => h) ((cells2 (row_grow RX.out GD)).2) (Or.inl ⟨by rfl, ?_⟩) ?_
              rotate_left
              · (intro w' hSw; (try dsimp only at hSw); go_simp <;> with_reducible rfl)
              try simp only [Act.put, List.getElem_toArray, List.getElem_cons_succ, List.getElem_cons_zero, List.setIfInBounds_toArray, List.set_cons_zero, List.set_cons_succ]
              refine but_take (i := 4) (v := ?_) 9 rfl (by kernel_rfl) (by kernel_rfl) (by kernel_rfl) (by kernel_rfl) (by kernel_rfl) (fun _ _ _ h => h) ((cells2 (row_grow RX.out GD)).2) (Or.inl ⟨by rfl, ?_⟩) ?_
              rotate_left
              · (intro w' hSw; (try dsimp only at hSw); go_simp <;> with_reducible rfl)
              try simp only [Act.put, List.getElem_toArray, List.getElem_cons_succ, List.getElem_cons_zero, List.setIfInBounds_toArray, List.set_cons_zero, List.set_cons_succ]
              refine but_one (i := 5) (by kernel_rfl) rfl ?_
              intro K HK'
              have HK := Lib.hid HK'
              clear HK'
              refine wanted_go rfl ?_
              try simp only [List.getElem_toArray, List.getElem_cons_succ, List.getElem_cons_zero]
              refine wp_store_row (.tmp 2) (.tmp 116) rfl rfl rfl (row_grow R2X.out GD) info_ms rfl rfl ?_
              intro w7 r7 g7
              refine HK.out _ _ ⟨fun _ => (cells2 (row_by (row_grow RX.out GD) g7 (by have := H9.out.lo6; intro e9; have := Option.some.inj e9; omega))).2, ?_⟩
              clear HK K
              try simp only [Act.put]
              refine but_one (i := 6) (by kernel_rfl) rfl ?_
              intro K HK'
              have HK := Lib.hid HK'
              clear HK'
              skip
              try simp only [List.getElem_toArray, List.getElem_cons_succ, List.getElem_cons_zero]
              go_simp
              refine HK.out _ _ ⟨fun h => absurd rfl h, ?_⟩
              clear HK K
              try simp only [Act.put, List.getElem_toArray, List.getElem_cons_succ, List.getElem_cons_zero, List.setIfInBounds_toArray, List.set_cons_zero, List.set_cons_succ]
              refine but_done (by kernel_rfl) ?_
              obtain ⟨p0, p1, p2, p3⟩ := cells4 r7
              go_wp2
              refine bodyPost_ret (v := .tuple #[.agg #[.int .i64 0, .int .i64 0, .int .i64 0, .slice none 0 0], .int .i64 (2)]) (by simp [results, Try.results59, go_sem, p0, p1, p2, p3]) rfl ?_
              rw [HE.out]
              exact ⟨_, rfl, of_ms0 _, (GX.out.trans GD).grown g7 (fun q hq => by simp at hq; omega)⟩
          · have HE : Hid (readB b = (ms0, eN)) := Lib.hid (by
              rw [HRB2.out]
              unfold readP
              simp only
              rw [if_neg (by simp [hN])]
              simp [hN])
            have hb1 : (eN == 0) = false := by simp [hN]
            have hb2 : (eN != 0) = true := by simp [hN]
            have RX := Lib.hid RX0.out
            have R2X := Lib.hid R2X0.out
            have GX := Lib.hid GX0.out
            clear hN
            go_wp2_with fail
            clear q0 q1
            refine but_start (fun w' => w'.cell? ⟨B6, 1, none⟩ = some (.int .i64 (eN))) 6 (by kernel_rfl) ?_
            obtain ⟨wd, hWd⟩ : ∃ x : World, x = wx.drew := ⟨_, rfl⟩
            rw [← hWd]
            have GD : Grow wx wd := by rw [hWd]; exact (Grow.refl _).drew
            have zD : wx.heap.size = wd.heap.size := by rw [hWd]; rfl
            have ZD := Lib.hid zD
            clear hWd zD
            refine but_take (i := 0) (v := ?_) 9 rfl (by kernel_rfl) (by kernel_rfl) (by kernel_rfl) (by kernel_rfl) (by kernel_rfl) (fun _ _ _ h => h) ((cells2 (row_grow RX.out GD)).2) (Or.inl ⟨by rfl, ?_⟩) ?_
            rotate_left
            · (intro w' hSw; (try dsimp only at hSw); go_simp <;> with_reducible rfl)
            try simp only [Act.put, List.getElem_toArray, List.getElem_cons_zero, List.setIfInBounds_toArray, List.set_cons_zero, List.set_cons_succ]
            refine but_take (i := 1) (v := ?_) 9 rfl (by kernel_rfl) (by kernel_rfl) (by kernel_rfl) (by kernel_rfl) (by kernel_rfl) (fun _ _ _ h => h) ((cells2 (row_grow RX.out GD)).2) (Or.inl ⟨by rfl, ?_⟩) ?_
            rotate_left
            · (intro w' hSw; (try dsimp only at hSw); go_simp <;> with_reducible rfl)
            try simp only [Act.put, List.getElem_toArray, List.getElem_cons_succ, List.getElem_cons_zero, List.setIfInBounds_toArray, List.set_cons_zero, List.set_cons_succ]
            refine but_take (i := 2) (v := ?_) 9 rfl (by kernel_rfl) (by kernel_rfl) (by kernel_rfl) (by kernel_rfl) (by kernel_rfl) (fun _ _ _ h => h) ((cells2 (row_grow RX.out GD)).2) (Or.inl ⟨by rfl, ?_⟩) ?_
            rotate_left
            · (intro w' hSw; (try dsimp only at hSw); go_simp <;> with_reducible rfl)
            try simp only [Act.put, List.getElem_toArray, List.getElem_cons_succ, List.getElem_cons_zero, List.setIfInBounds_toArray, List.set_cons_zero, List.set_cons_succ]
            refine but_take (i := 3) (v := ?_) 9 rfl (by kernel_rfl) (by kernel_rfl) (by kernel_rfl) (by kernel_rfl) (by kernel_rfl) (fun _ _ _ h => h) ((cells2 (row_grow RX.out GD)).2) (Or.inl ⟨by rfl, ?_⟩) ?_
            rotate_left
            · (intro w' hSw; (try dsimp only at hSw); go_simp <;> with_reducible rfl)
            try simp only [Act.put, List.getElem_toArray, List.getElem_cons_succ, List.getElem_cons_zero, List.setIfInBounds_toArray, List.set_cons_zero, List.set_cons_succ]
            refine but_take (i := 4) (v := ?_) 9 rfl (by kernel_rfl) (by kernel_rfl) (by kernel_rfl) (by kernel_rfl) (by kernel_rfl) (fun _ _ _ h => h) ((cells2 (row_grow RX.out GD)).2) (Or.inl ⟨by rfl, ?_⟩) ?_
            rotate_left
            · (intro w' hSw; (try dsimp only at hSw); go_simp <;> with_reducible rfl)
            try simp only [Act.put, List.getElem_toArray, List.getElem_cons_succ, List.getElem_cons_zero, List.setIfInBounds_toArray, List.set_cons_zero, List.set_cons_succ]
            refine but_one (i := 5) (by kernel_rfl) rfl ?_
            intro K HK'
            have HK := Lib.hid HK'
            clear HK'
            refine wanted_go rfl ?_
            try simp only [List.getElem_toArray, List.getElem_cons_succ, List.getElem_cons_zero]
            refine wp_store_row (.tmp 2) (.tmp 116) rfl rfl rfl (row_grow R2X.out GD) info_ms rfl rfl ?_
            intro w7 r7 g7
            refine HK.out _ _ ⟨fun _ => (cells2 (row_by (row_grow RX.out GD) g7 (by have := H9.out.lo6; intro e9; have := Option.some.inj e9; omega))).2, ?_⟩
            clear HK K
            try simp only [Act.put]
            refine but_one (i := 6) (by kernel_rfl) rfl ?_
            intro K HK'
            have HK := Lib.hid HK'
            clear HK'
            skip
            try simp only [List.getElem_toArray, List.getElem_cons_succ, List.getElem_cons_zero]
            go_simp
            refine HK.out _ _ ⟨fun h => absurd rfl h, ?_⟩
            clear HK K
            try simp only [Act.put, List.getElem_toArray, List.getElem_cons_succ, List.getElem_cons_zero, List.setIfInBounds_toArray, List.set_cons_zero, List.set_cons_succ]
            refine but_done (by kernel_rfl) ?_
            obtain ⟨p0, p1, p2, p3⟩ := cells4 r7
            go_wp2
            refine bodyPost_ret (v := .tuple #[.agg #[.int .i64 0, .int .i64 0, .int .i64 0, .slice none 0 0], .int .i64 (eN)]) (by simp [results, Try.results59, go_sem, p0, p1, p2, p3]) rfl ?_
            rw [HE.out]
            exact ⟨_, rfl, of_ms0 _, (GX.out.trans GD).grown g7 (fun q hq => by simp at hq; omega)⟩
    · obtain rfl : n = 0 := hnz he3
      obtain ⟨l3, e3⟩ := s3
      simp only at he3 q1
      have HE : Hid (readB b = (ms0, e3)) := Lib.hid (by
        rw [HRB.out, if_neg (by simp [he3])]
        simp only [Int.toNat_zero, Nat.mul_zero, nextN]
        unfold readP
        simp only
        rw [if_neg (by simp [he3])]
        simp [he3])
      have hb1 : (e3 == 0) = false := by simp [he3]
      have hb2 : (e3 != 0) = true := by simp [he3]
      have R9 := Lib.hid H9.out.rdr
      clear he3 hnz hnb HRB
      go_wp2
      go_loopw [70] (fun i wr => i = .int .i64 0 ∧ wr = w9) (fun _ _ => 0)
      case atStart => exact ⟨rfl, rfl⟩
      case round =>
        obtain ⟨rfl, hwr⟩ := hrel
        obtain ⟨wx, rfl⟩ : ∃ x : World, x = wr := ⟨_, rfl⟩
        have R9x := Lib.hid (show Rdr wx B6 w.cell? (l3, e3) by rw [hwr]; exact R9.out)
        have R2X : Hid (wx.heap[w.heap.size]? = some (.cells #[.int .i64 0, .int .i64 0, .int .i64 0, .slice none 0 0] 39 (0, 0))) := Lib.hid (by rw [hwr]; exact R2.out)
        have GX := Lib.hid (show Grow w wx by rw [hwr]; exact G9.out)
        clear hwr q0 q1 z6
        obtain ⟨rb, rd, hrow, -⟩ := R9x.out
        simp only at hrow
        have RX := Lib.hid hrow
        obtain ⟨q0, q1⟩ := cells2 hrow
        have z6x : B6 < wx.heap.size := (Array.getElem?_eq_some_iff.1 hrow).1
        clear hrow
        go_wp2_with fail
        clear q0 q1
        refine but_start (fun w' => w'.cell? ⟨B6, 1, none⟩ = some (.int .i64 (e3))) 6 (by kernel_rfl) ?_
        obtain ⟨wd, hWd⟩ : ∃ x : World, x = wx.drew := ⟨_, rfl⟩
        rw [← hWd]
        have GD : Grow wx wd := by rw [hWd]; exact (Grow.refl _).drew
        have zD : wx.heap.size = wd.heap.size := by rw [hWd]; rfl
        have ZD := Lib.hid zD
        clear hWd zD
        refine but_take (i := 0) (v := ?_) 9 rfl (by kernel_rfl) (by kernel_rfl) (by kernel_rfl) (by kernel_rfl) (by kernel_rfl) (fun _ _ _ h => h) ((cells2 (row_grow RX.out GD)).2) (Or.inl ⟨by rfl, ?_⟩) ?_
        rotate_left
        · (intro w' hSw; (try dsimp only at hSw); go_simp <;> with_reducible rfl)
        try simp only [Act.put, List.getElem_toArray, List.getElem_cons_zero, List.setIfInBounds_toArray, List.set_cons_zero, List.set_cons_succ]
        refine but_take (i := 1) (v := ?_) 9 rfl (by kernel_rfl) (by kernel_rfl) (by kernel_rfl) (by kernel_rfl) (by kernel_rfl) (fun _ _ _ h => h) ((cells2 (row_grow RX.out GD)).2) (Or.inl ⟨by rfl, ?_⟩) ?_
        rotate_left
        · (intro w' hSw; (try dsimp only at hSw); go_simp <;> with_reducible rfl)
        try simp only [Act.put, List.getElem_toArray, List.getElem_cons_succ, List.getElem_cons_zero, List.setIfInBounds_toArray, List.set_cons_zero, List.set_cons_succ]
        refine but_take (i := 2) (v := ?_) 9 rfl (by kernel_rfl) (by kernel_rfl) (by kernel_rfl) (by kernel_rfl) (by kernel_rfl) (fun _ _ _ h => h) ((cells2 (row_grow RX.out GD)).2) (Or.inl ⟨by rfl, ?_⟩) ?_
        rotate_left
        · (intro w' hSw; (try dsimp only at hSw); go_simp <;> with_reducible rfl)
        try simp only [Act.put, List.getElem_toArray, List.getElem_cons_succ, List.getElem_cons_zero, List.setIfInBounds_toArray, List.set_cons_zero, List.set_cons_succ]
        refine but_take (i := 3) (v := ?_) 9 rfl (by kernel_rfl) (by kernel_rfl) (by kernel_rfl) (by kernel_rfl) (by kernel_rfl) (fun _ _ _ h => h) ((cells2 (row_grow RX.out GD)).2) (Or.inl ⟨by rfl, ?_⟩) ?_
        rotate_left
        · (intro w' hSw; (try dsimp only at hSw); go_simp <;> with_reducible rfl)
        try simp only [Act.put, List.getElem_toArray, List.getElem_cons_succ, List.getElem_cons_zero, List.setIfInBounds_toArray, List.set_cons_zero, List.set_cons_succ]
        refine but_take (i := 4) (v := ?_) 9 rfl (by kernel_rfl) (by kernel_rfl) (by kernel_rfl) (by kernel_rfl) (by kernel_rfl) (fun _ _ _ h => h) ((cells2 (row_grow RX.out GD)).2) (Or.inl ⟨by rfl, ?_⟩) ?_
        rotate_left
        · (intro w' hSw; (try dsimp only at hSw); go_simp <;> with_reducible rfl)
        try simp only [Act.put, List.getElem_toArray, List.getElem_cons_succ, List.getElem_cons_zero, List.setIfInBounds_toArray, List.set_cons_zero, List.set_cons_succ]
        refine but_one (i := 5) (by kernel_rfl) rfl ?_
        intro K HK'
        have HK := Lib.hid HK'
        clear HK'
        refine wanted_go rfl ?_
        try simp only [List.getElem_toArray, List.getElem_cons_succ, List.getElem_cons_zero]
        refine wp_store_row (.tmp 2) (.tmp 116) rfl rfl rfl (row_grow R2X.out GD) info_ms rfl rfl ?_
        intro w7 r7 g7
        refine HK.out _ _ ⟨fun _ => (cells2 (row_by (row_grow RX.out GD) g7 (by have := H9.out.lo6; intro e9; have := Option.some.inj e9; omega))).2, ?_⟩
        clear HK K
        try simp only [Act.put]
        refine but_one (i := 6) (by kernel_rfl) rfl ?_
        intro K HK'
        have HK := Lib.hid HK'
        clear HK'
        skip
        try simp only [List.getElem_toArray, List.getElem_cons_succ, List.getElem_cons_zero]
        go_simp
        refine HK.out _ _ ⟨fun h => absurd rfl h, ?_⟩
        clear HK K
        try simp only [Act.put, List.getElem_toArray, List.getElem_cons_succ, List.getElem_cons_zero, List.setIfInBounds_toArray, List.set_cons_zero, List.set_cons_succ]
        refine but_done (by kernel_rfl) ?_
        obtain ⟨p0, p1, p2, p3⟩ := cells4 r7
        go_wp2
        refine bodyPost_ret (v := .tuple #[.agg #[.int .i64 0, .int .i64 0, .int .i64 0, .slice none 0 0], .int .i64 (e3)]) (by simp [results, Try.results59, go_sem, p0, p1, p2, p3]) rfl ?_
        rw [HE.out]
        exact ⟨_, rfl, of_ms0 _, (GX.out.trans GD).grown g7 (fun q hq => by simp at hq; omega)⟩
  · have HE : Hid (readB b = (ms0, 7)) := Lib.hid (by
      unfold readB
      rw [if_neg HL3.out, if_neg (by rw [HOK.out]; simpa using ht)])
    by_cases hxx : (x : Int) = (s : Int) / 256
    · have hyy : ¬ (y : Int) = (s : Int) % 256 := fun h => ht (hsx.1 ⟨hxx, h⟩)
      have hbx : ((x : Int) != (s : Int) / 256) = false := by simp [hxx]
      have hby : ((y : Int) != (s : Int) % 256) = true := by simp [hyy]
      clear hsx HOK ht hxx hyy
      go_enter Try.func59, Try.ntmps59
      go_wp2_with fail
      refine (HSM.out _ ((Grow.refl _).alloc _)).mono ?_
      rintro e0 w1 ⟨rfl, hb1⟩
      have R2 := Lib.hid (row_grow (row_new w (.cells #[.int .i64 0, .int .i64 0, .int .i64 0, .slice none 0 0] 39)) hb1)
      have G1 := Lib.hid (((Grow.refl w).alloc (.cells #[.int .i64 0, .int .i64 0, .int .i64 0, .slice none 0 0] 39)).trans hb1)
      replace c0 := G1.out.sub _ _ c0
      replace cx := G1.out.sub _ _ cx
      replace cy := G1.out.sub _ _ cy
      have z2 : w.heap.size < w1.heap.size := (Array.getElem?_eq_some_iff.1 R2.out).1
      clear hb1
      go_wp2_with (first | (refine wpList_store_row rfl (.tmp 2) (.tmp 38) rfl rfl rfl R2.out info_ms rfl rfl ?_))
      intro w7 r7 g7
      obtain ⟨p0, p1, p2, p3⟩ := cells4 r7
      go_wp2
      refine bodyPost_ret (v := .tuple #[.agg #[.int .i64 0, .int .i64 0, .int .i64 0, .slice none 0 0], .int .i64 7]) (by simp [results, Try.results59, go_sem, p0, p1, p2, p3]) rfl ?_
      rw [HE.out]
      exact ⟨_, rfl, of_ms0 _, G1.out.grown g7 (fun q hq => by simp at hq; omega)⟩
    · have hbx : ((x : Int) != (s : Int) / 256) = true := by simp [hxx]
      clear hsx HOK ht hxx
      go_enter Try.func59, Try.ntmps59
      go_wp2_with fail
      refine (HSM.out _ ((Grow.refl _).alloc _)).mono ?_
      rintro e0 w1 ⟨rfl, hb1⟩
      have R2 := Lib.hid (row_grow (row_new w (.cells #[.int .i64 0, .int .i64 0, .int .i64 0, .slice none 0 0] 39)) hb1)
      have G1 := Lib.hid (((Grow.refl w).alloc (.cells #[.int .i64 0, .int .i64 0, .int .i64 0, .slice none 0 0] 39)).trans hb1)
      replace c0 := G1.out.sub _ _ c0
      replace cx := G1.out.sub _ _ cx
      replace cy := G1.out.sub _ _ cy
      have z2 : w.heap.size < w1.heap.size := (Array.getElem?_eq_some_iff.1 R2.out).1
      clear hb1
      go_wp2_with (first | (refine wpList_store_row rfl (.tmp 2) (.tmp 38) rfl rfl rfl R2.out info_ms rfl rfl ?_))
      intro w7 r7 g7
      obtain ⟨p0, p1, p2, p3⟩ := cells4 r7
      go_wp2
      refine bodyPost_ret (v := .tuple #[.agg #[.int .i64 0, .int .i64 0, .int .i64 0, .slice none 0 0], .int .i64 7]) (by simp [results, Try.results59, go_sem, p0, p1, p2, p3]) rfl ?_
      rw [HE.out]
      exact ⟨_, rfl, of_ms0 _, G1.out.grown g7 (fun q hq => by simp at hq; omega)⟩
end Go.Proofs.Ytgbhpghgohggcaa

/- Walks: SameLog of the document's answer; four sums compared. -/
namespace Go.Proofs.Ytgbhpghgohggcaa
open Go.RowKit
set_option maxRecDepth 100000 in
set_option maxHeartbeats 4000000 in
theorem ref_sameLog {v v' : Value} {l l' : List Rc} (w : World) (hv : Sl Ty.rc w.cell? v l) (hv' : Sl Ty.rc w.cell? v' l') :
    Calls Try.prog 39 #[v, v'] w fun e w' => e = .returned (.bool (decide (l = l'))) ∧ Grow w w' := by
  obtain ⟨a, cap, rfl, h1, h2, -, hel⟩ := hv
  obtain ⟨a', cap', rfl, h1', h2', -, hel'⟩ := hv'
  unfold maxLen at h2 h2'
  by_cases hlen : l.length = l'.length
  · have hb : ((l.length : Int) != l'.length) = false := by simp [hlen]
    have HL := Lib.hid hlen
    clear hlen
    go_enter Try.func39, Try.ntmps39
    go_wp2
    go_loopw [4, 5, 13] (fun _ _ i wr => ∃ k : Nat, k ≤ l.length ∧ i = .int .i64 k ∧ Grow w wr ∧ ∀ j, j < k → l[j]? = l'[j]?) (fun _ _ i _ => l.length - (intOf i).toNat)
    case atStart => exact ⟨0, by omega, rfl, (by repeat (first | with_reducible assumption | with_reducible exact Grow.refl _ | with_reducible apply Grow.drewN | with_reducible apply Grow.drew | with_reducible apply Grow.alloc | (refine Grow.setCell ?_ (by simp; done) _))), fun j h => by omega⟩
    case round =>
      obtain ⟨k, hk', rfl, hb, hE⟩ := hrel
      by_cases hlt : k < l.length
      · have hlt' : k < l'.length := by have := HL.out; omega
        have H1 := Lib.hid (same_next hlt hlt' hE)
        have H2 : Hid (¬ l[k] = l'[k] → decide (l = l') = false) := fun h => same_not hlt hlt' h
        clear hE
        obtain ⟨b, o, vp, rfl, c0, c1, c2, -, -, hp⟩ := Rcs.at_ hel k hlt
        obtain ⟨b', o', vp', rfl, c0', c1', c2', -, -, hp'⟩ := Rcs.at_ hel' k hlt'
        obtain ⟨ap, cp, rfl, -⟩ := id hp
        obtain ⟨ap', cp', rfl, -⟩ := id hp'
        have HSP := Lib.hid (fun (W : World) (hW : Grow wr W) => ref_sameParts W (hp.mono (hb.trans hW).sub) (hp'.mono (hb.trans hW).sub))
        replace c0 := hb.sub _ _ c0
        replace c0' := hb.sub _ _ c0'
        replace c1 := hb.sub _ _ c1
        replace c1' := hb.sub _ _ c1'
        replace c2 := hb.sub _ _ c2
        replace c2' := hb.sub _ _ c2'
        clear hel hel' hp hp'
        generalize l[k] = p at *
        generalize l'[k] = p' at *
        have HS : Hid (∀ W, Grow wr W → W.cell? ⟨b, o + k * 3, none⟩ = some (.int .i64 p.kind) ∧ W.cell? ⟨b, o + k * 3 + 1, none⟩ = some (.int .i64 p.deed) ∧ W.cell? ⟨b, o + k * 3 + 2, none⟩ = some (.slice ap p.parts.length cp) ∧ W.cell? ⟨b', o' + k * 3, none⟩ = some (.int .i64 p'.kind) ∧ W.cell? ⟨b', o' + k * 3 + 1, none⟩ = some (.int .i64 p'.deed) ∧ W.cell? ⟨b', o' + k * 3 + 2, none⟩ = some (.slice ap' p'.parts.length cp')) := fun W hW => ⟨hW.sub _ _ c0, hW.sub _ _ c1, hW.sub _ _ c2, hW.sub _ _ c0', hW.sub _ _ c1', hW.sub _ _ c2'⟩
        by_cases hk : p.kind = p'.kind
        · have hnk : (p.kind != p'.kind) = false := by simp [hk]
          by_cases hd : p.deed = p'.deed
          · have hne : (p.deed != p'.deed) = false := by simp [hd]
            by_cases hpp : p.parts = p'.parts
            · have hpe : p = p' := by cases p; cases p'; simp_all
              have H3 := Lib.hid (H1.out hpe)
              have hdec := decide_eq_true hpp
              rw [hdec] at HSP
              clear hk hd hpp hpe H1 H2 hdec
              go_wp2
              go_region_held3 (fun w' => w'.cell? ⟨b, o + k * 3, none⟩ = some (.int .i64 p.kind) ∧ w'.cell? ⟨b, o + k * 3 + 1, none⟩ = some (.int .i64 p.deed) ∧ w'.cell? ⟨b, o + k * 3 + 2, none⟩ = some (.slice ap p.parts.length cp) ∧ w'.cell? ⟨b', o' + k * 3, none⟩ = some (.int .i64 p'.kind) ∧ w'.cell? ⟨b', o' + k * 3 + 1, none⟩ = some (.int .i64 p'.deed) ∧ w'.cell? ⟨b', o' + k * 3 + 2, none⟩ = some (.slice ap' p'.parts.length cp')) (first | assumption | exact HS.out _ (by repeat (first | with_reducible assumption | with_reducible exact Grow.refl _ | with_reducible apply Grow.drewN | with_reducible apply Grow.drew | with_reducible apply Grow.alloc | (refine Grow.trans ?_ (by with_reducible assumption))))) (first | (go_at_call 84; refine (HSP.out _ (by repeat (first | with_reducible assumption | with_reducible exact Grow.refl _ | with_reducible apply Grow.drewN | with_reducible apply Grow.drew | with_reducible apply Grow.alloc | (refine Grow.trans ?_ (by with_reducible assumption))))).mono ?_; rintro e w4 ⟨rfl, hb4⟩))
              go_wp2
              go_roundw
              case rel => exact ⟨k + 1, by omega, by go_num, hb.trans (by repeat (first | with_reducible assumption | with_reducible exact Grow.refl _ | with_reducible apply Grow.drewN | with_reducible apply Grow.drew | with_reducible apply Grow.alloc | (refine Grow.trans ?_ (by with_reducible assumption)))), H3.out⟩
              case measure => simp [intOf]; omega
            · have H3 := Lib.hid (H2.out (fun e => hpp (by rw [e])))
              have hdec := decide_eq_false hpp
              rw [hdec] at HSP
              clear hk hd hpp H1 H2 hdec
              go_wp2
              go_region_held3 (fun w' => w'.cell? ⟨b, o + k * 3, none⟩ = some (.int .i64 p.kind) ∧ w'.cell? ⟨b, o + k * 3 + 1, none⟩ = some (.int .i64 p.deed) ∧ w'.cell? ⟨b, o + k * 3 + 2, none⟩ = some (.slice ap p.parts.length cp) ∧ w'.cell? ⟨b', o' + k * 3, none⟩ = some (.int .i64 p'.kind) ∧ w'.cell? ⟨b', o' + k * 3 + 1, none⟩ = some (.int .i64 p'.deed) ∧ w'.cell? ⟨b', o' + k * 3 + 2, none⟩ = some (.slice ap' p'.parts.length cp')) (first | assumption | exact HS.out _ (by repeat (first | with_reducible assumption | with_reducible exact Grow.refl _ | with_reducible apply Grow.drewN | with_reducible apply Grow.drew | with_reducible apply Grow.alloc | (refine Grow.trans ?_ (by with_reducible assumption))))) (first | (go_at_call 84; refine (HSP.out _ (by repeat (first | with_reducible assumption | with_reducible exact Grow.refl _ | with_reducible apply Grow.drewN | with_reducible apply Grow.drew | with_reducible apply Grow.alloc | (refine Grow.trans ?_ (by with_reducible assumption))))).mono ?_; rintro e w4 ⟨rfl, hb4⟩))
              go_wp2
              go_ret
              exact ⟨ret_bool H3.out.symm, hb.trans (by repeat (first | with_reducible assumption | with_reducible exact Grow.refl _ | with_reducible apply Grow.drewN | with_reducible apply Grow.drew | with_reducible apply Grow.alloc | (refine Grow.trans ?_ (by with_reducible assumption))))⟩
          · have H3 := Lib.hid (H2.out (fun e => hd (by rw [e])))
            have hne : (p.deed != p'.deed) = true := by simp [hd]
            clear hk hd H1 H2
            go_wp2_with (go_quiet (fail))
            go_ret
            exact ⟨ret_bool H3.out.symm, (by repeat (first | with_reducible assumption | with_reducible exact Grow.refl _ | with_reducible apply Grow.drewN | with_reducible apply Grow.drew | with_reducible apply Grow.alloc | (refine Grow.setCell ?_ (by simp; done) _)))⟩
        · have H3 := Lib.hid (H2.out (fun e => hk (by rw [e])))
          have hnk : (p.kind != p'.kind) = true := by simp [hk]
          clear hk H1 H2
          go_wp2_with (go_quiet (fail))
          go_ret
          exact ⟨ret_bool H3.out.symm, (by repeat (first | with_reducible assumption | with_reducible exact Grow.refl _ | with_reducible apply Grow.drewN | with_reducible apply Grow.drew | with_reducible apply Grow.alloc | (refine Grow.setCell ?_ (by simp; done) _)))⟩
      · have HE := Lib.hid hE
        clear hel hel' hE
        go_wp2
        go_ret
        refine ⟨ret_bool ?_, hb⟩
        rw [eq_comm, decide_eq_true_eq]
        exact same_all HL.out (by omega) HE.out
  · have hb : ((l.length : Int) != l'.length) = true := by simp; omega
    have HE : Hid (decide (l = l') = false) := by show _ = _; rw [decide_eq_false_iff_not]; rintro rfl; exact hlen rfl
    clear hlen hel hel'
    go_enter Try.func39, Try.ntmps39
    go_wp2
    go_ret
    exact ⟨ret_bool HE.out.symm, (by repeat (first | with_reducible assumption | with_reducible exact Grow.refl _ | with_reducible apply Grow.drewN | with_reducible apply Grow.drew | with_reducible apply Grow.alloc | (refine Grow.setCell ?_ (by simp; done) _)))⟩
theorem eql_sm (s t : Sm) (w : World) : (binOp .eql 25 (.agg #[.int .i64 s.a, .int .i64 s.b, .int .i64 s.c, .int .i64 s.d]) (.agg #[.int .i64 t.a, .int .i64 t.b, .int .i64 t.c, .int .i64 t.d])).run Try.prog w = .ok (.bool (decide (s = t))) w := by
  have u3 := Try.underlying3
  have a3 := Try.isAgg3
  have z3 := Try.sizeOf3
  obtain ⟨i, z, hi, _⟩ := ei_int.hi
  have hc : Try.prog.cellsOf 3 = 1 := by kernel_rfl
  rw [run_eql_struct, show (10000 : Nat) = 9999 + 1 from rfl, run_equalIn_array w 9999 _ _ Try.underlying25 hi, hc, show List.range 4 = [0, 1, 2, 3] from rfl]
  clear hi
  simp only [Op.eqItems]
  obtain ⟨a, b, c, d⟩ := s
  obtain ⟨a', b', c', d'⟩ := t
  go_simp
  by_cases h1 : a = a' <;> by_cases h2 : b = b' <;> by_cases h3 : c = c' <;> by_cases h4 : d = d' <;> simp [h1, h2, h3, h4]
theorem guard_sm : Try.prog.eqGuardType Try.prog.depth 25 = false := by kernel_rfl
end Go.Proofs.Ytgbhpghgohggcaa

/- Laws and walks: an element of a row of the call's own is stored; sums of houses compared. -/
namespace Go.Proofs.Ytgbhpghgohggcaa
open Go.RowKit
theorem run_store_el {α : Type} {T : Ty α} {P : Program} {ty : TypeId} {c : CM} {w : World} {base e g cap i : Nat} {l : List α} {cells : Array Value} {x : α}
    (hown : OwnC T c w base e (.slice (some ⟨g, 0, none⟩) l.length cap) l) (hi : i < l.length) (hsz : (P.info? ty).map (·.size) = some cells.size) (hR : T.R c cells.toList x) (h1 : cells.toList.all (·.oneCell') = true) :
    ∃ w', (storeVar ty ⟨g, i * T.size, none⟩ (.agg cells)).run P w = .ok () w' ∧ OwnC T c w' base e (.slice (some ⟨g, 0, none⟩) l.length cap) (l.set i x) ∧ w.grownBy w' (some g) := by
  obtain ⟨css, ⟨hl, ⟨h', _⟩ | ⟨g', cap', cur, h', hb, hg, hnc, hcm, hcs, htake⟩⟩, h2, h3⟩ := hown
  · simp at h'
  simp only [Value.slice.injEq, Option.some.injEq, Addr.mk.injEq, and_true, true_and] at h'
  obtain ⟨rfl, rfl⟩ := h'
  have hcl := css_len h2 h3
  have hlen : cells.toList.length = T.size := T.len hR
  have hle : i * T.size + T.size ≤ l.length * T.size := by
    have := Nat.mul_le_mul_right T.size (show i + 1 ≤ l.length by omega)
    rw [Nat.add_mul] at this; omega
  have hle2 : l.length * T.size ≤ cap * T.size := Nat.mul_le_mul_right _ hnc
  have hr := run_storeCells_at (P := P) g (i * T.size) e cells.toList 0 cur w hg (by rw [hlen]; omega) (fun v hv => by simpa using List.all_eq_true.1 h1 v hv)
  have e9 : (l.set i x).length = l.length := List.length_set
  have e1 : css.flatten.length = l.length * T.size := by rw [flatten_len css hcl, h2]
  have e2 : cur.toList.take (i * T.size) = css.flatten.take (i * T.size) := by rw [← htake, List.take_take, Nat.min_eq_left (by omega)]
  have e3 : (cur.toList.drop (i * T.size + T.size)).take (l.length * T.size - (i * T.size + T.size)) = css.flatten.drop (i * T.size + T.size) := by
    rw [← htake, List.drop_take]
  have e4 : (css.flatten.take (i * T.size)).length = i * T.size := by rw [List.length_take, e1, Nat.min_eq_left (by omega)]
  have hown' : (w.setRow g (cur.toList.take (i * T.size + 0) ++ cells.toList ++ cur.toList.drop (i * T.size + 0 + cells.toList.length)).toArray).ownsRow base e T.size (.slice (some ⟨g, 0, none⟩) l.length cap) l.length (css.set i cells.toList).flatten := by
    refine ⟨?_, .inr ⟨g, cap, _, rfl, hb, setRow_heap w g cur _ e _ hg, hnc, hcm, ?_, ?_⟩⟩
    · rw [flatten_len _ (fun cs hc => by rcases List.mem_or_eq_of_mem_set hc with h | h; exact hcl cs h; rw [h]; exact hlen)]
      simp [h2]
    · rw [List.size_toArray, List.length_append, List.length_append, List.length_take, List.length_drop, hlen, Array.length_toList, hcs]; omega
    · rw [hlen, Nat.add_zero, e2]
      simp only
      rw [List.take_append, List.take_of_length_le (by rw [List.length_append, e4, hlen]; exact hle), List.length_append, e4, hlen, e3, flatten_take css i hcl, show i * T.size + T.size = (i + 1) * T.size by rw [Nat.add_mul]; omega, flatten_drop css (i + 1) hcl,
        List.set_eq_take_append_cons_drop, if_pos (by omega)]
      simp
  refine ⟨w.setRow g (cur.toList.take (i * T.size + 0) ++ cells.toList ++ cur.toList.drop (i * T.size + 0 + cells.toList.length)).toArray, ?_, ⟨css.set i cells.toList, by rw [e9]; exact hown', by simp [h2], fun j cs y ej ey => ?_⟩, ⟨rfl, rfl, rfl, by simp [World.setRow], fun k hk hne => ?_⟩⟩
  · cases hq : P.info? ty with
    | none => simp [hq] at hsz
    | some q =>
      have hs : cells.size = q.size := by simp [hq] at hsz; omega
      simp [storeVar, sizeOf, typeInfo, hq, Value.cells, hs] at hr ⊢
      exact hr
  · by_cases hj : j = i
    · subst hj
      rw [List.getElem?_set_self (by omega)] at ej ey
      obtain rfl := Option.some.inj ej
      obtain rfl := Option.some.inj ey
      exact hR
    · rw [List.getElem?_set_ne (fun e => hj e.symm)] at ej ey
      exact h3 j cs y ej ey
  · simp only [World.setRow]
    rw [Array.getElem?_modify]
    rw [if_neg (fun e => hne (by rw [e]))]
theorem wp_store_el {α : Type} {T : Ty α} {P : Program} {ty : TypeId} {c : CM} {w : World} {o : Oper} {a : Act} {K : Act → World → Prop} {Q : Exit → Act → World → Prop} (d s : Operand) (ho : o.op = .store ty d s)
    {base e g cap i p : Nat} {l : List α} {cells : Array Value} {x : α} (hd : a.eval d = .pointer (some ⟨g, p, none⟩)) (hs : a.eval s = .agg cells) (hp : p = i * T.size)
    (hown : OwnC T c w base e (.slice (some ⟨g, 0, none⟩) l.length cap) l) (hi : i < l.length) (hsz : (P.info? ty).map (·.size) = some cells.size) (hR : T.R c cells.toList x) (h1 : cells.toList.all (·.oneCell') = true)
    (h : ∀ w', OwnC T c w' base e (.slice (some ⟨g, 0, none⟩) l.length cap) (l.set i x) → w.grownBy w' (some g) → K (a.put o.dst undef) w') : o.wp P a w K Q := by
  subst hp
  obtain ⟨w', hr, h2, h3⟩ := run_store_el (P := P) (ty := ty) hown hi hsz hR h1
  unfold Oper.wp execOp
  simp only [ho, hd, hs, Instr.storeAt, Instr.sureAddr, Sem.run_bind, Sem.run_pure, Result.andThen_ok, hr]
  exact h _ h2 h3
theorem wpList_store_el {α : Type} {T : Ty α} {P : Program} {ty : TypeId} {c : CM} {w : World} {ops : Array Oper} {rest : List Oper} {o : Oper} {a : Act} {Q : Exit → Act → World → Prop} (hgd : o.guard = none) (d s : Operand) (ho : o.op = .store ty d s)
    {base e g cap i p : Nat} {l : List α} {cells : Array Value} {x : α} (hd : a.eval d = .pointer (some ⟨g, p, none⟩)) (hs : a.eval s = .agg cells) (hp : p = i * T.size)
    (hown : OwnC T c w base e (.slice (some ⟨g, 0, none⟩) l.length cap) l) (hi : i < l.length) (hsz : (P.info? ty).map (·.size) = some cells.size) (hR : T.R c cells.toList x) (h1 : cells.toList.all (·.oneCell') = true)
    (h : ∀ w', OwnC T c w' base e (.slice (some ⟨g, 0, none⟩) l.length cap) (l.set i x) → w.grownBy w' (some g) → wpList P ops Q rest (a.put o.dst undef) w') : wpList P ops Q (o :: rest) a w :=
  wpList_plain hgd fun _ hK => wp_store_el d s ho hd hs hp hown hi hsz hR h1 fun w' a b => hK _ _ (h w' a b)
theorem OwnC.sm_any {c c' : CM} {w : World} {base e : Nat} {v : Value} {l : List Sm} (h : OwnC Ty.sm c w base e v l) : OwnC Ty.sm c' w base e v l := by
  obtain ⟨css, h1, h2, h3⟩ := h
  exact ⟨css, h1, h2, fun i cs x a b => h3 i cs x a b⟩
theorem info_sm : (Try.prog.info? 25).map (·.size) = some 4 := by kernel_rfl
theorem neq_sm (s t : Sm) (w : World) : (binOp .neq 25 (.agg #[.int .i64 s.a, .int .i64 s.b, .int .i64 s.c, .int .i64 s.d]) (.agg #[.int .i64 t.a, .int .i64 t.b, .int .i64 t.c, .int .i64 t.d])).run Try.prog w = .ok (.bool (!decide (s = t))) w := by
  have h := eql_sm s t w
  rw [run_eql_struct] at h
  rw [run_neq_struct]
  cases hr : (Op.equalIn 10000 25 (.agg #[.int .i64 s.a, .int .i64 s.b, .int .i64 s.c, .int .i64 s.d]) (.agg #[.int .i64 t.a, .int .i64 t.b, .int .i64 t.c, .int .i64 t.d])).run Try.prog w with
  | ok b w' => rw [hr] at h; simp only [Result.andThen_ok, Result.ok.injEq, Value.bool.injEq] at h ⊢; exact ⟨by rw [h.1], h.2⟩
  | halt x w' => rw [hr] at h; simp [Result.andThen] at h
set_option maxHeartbeats 400000 in
theorem ref_sameSums {v v' : Value} {l l' : List Sm} (w : World) (hv : Sl Ty.sm w.cell? v l) (hv' : Sl Ty.sm w.cell? v' l') :
    Calls Try.prog 73 #[v, v'] w fun e w' => e = .returned (.bool (decide (l = l'))) ∧ Grow w w' := by
  obtain ⟨a, cap, rfl, h1, h2, -, hel⟩ := hv
  obtain ⟨a', cap', rfl, h1', h2', -, hel'⟩ := hv'
  unfold maxLen at h2 h2'
  by_cases hlen : l.length = l'.length
  · have hb : ((l.length : Int) != l'.length) = false := by simp [hlen]
    have HL := Lib.hid hlen
    clear hlen
    go_enter Try.func73, Try.ntmps73
    go_wp2
    go_loopw [4, 5, 13] (fun _ _ i wr => ∃ k : Nat, k ≤ l.length ∧ i = .int .i64 k ∧ Grow w wr ∧ ∀ j, j < k → l[j]? = l'[j]?) (fun _ _ i _ => l.length - (intOf i).toNat)
    case atStart => exact ⟨0, by omega, rfl, (by repeat (first | with_reducible assumption | with_reducible exact Grow.refl _ | with_reducible apply Grow.drewN | with_reducible apply Grow.drew | with_reducible apply Grow.alloc | (refine Grow.setCell ?_ (by simp; done) _))), fun j h => by omega⟩
    case round =>
      obtain ⟨k, hk', rfl, hb, hE⟩ := hrel
      by_cases hlt : k < l.length
      · have hlt' : k < l'.length := by have := HL.out; omega
        have H1 := Lib.hid (same_next hlt hlt' hE)
        have H2 : Hid (¬ l[k] = l'[k] → decide (l = l') = false) := fun h => same_not hlt hlt' h
        clear hE
        obtain ⟨b, o, rfl, c0, c1, c2, c3, -, -, -, -⟩ := smAt hel k hlt
        obtain ⟨b', o', rfl, c0', c1', c2', c3', -, -, -, -⟩ := smAt hel' k hlt'
        replace c0 := hb.sub _ _ c0
        replace c1 := hb.sub _ _ c1
        replace c2 := hb.sub _ _ c2
        replace c3 := hb.sub _ _ c3
        replace c0' := hb.sub _ _ c0'
        replace c1' := hb.sub _ _ c1'
        replace c2' := hb.sub _ _ c2'
        replace c3' := hb.sub _ _ c3'
        clear hel hel'
        generalize l[k] = p at *
        generalize l'[k] = p' at *
        have hg := guard_sm
        have HN : ∀ w, (binOp .neq 25 (.agg #[.int .i64 p.a, .int .i64 p.b, .int .i64 p.c, .int .i64 p.d]) (.agg #[.int .i64 p'.a, .int .i64 p'.b, .int .i64 p'.c, .int .i64 p'.d])).run Try.prog w = .ok (.bool (!decide (p = p'))) w := fun w => neq_sm p p' w
        by_cases hpp : p = p'
        · simp only [hpp, decide_true, Bool.not_true] at HN
          have HQ := Lib.hid hpp
          subst hpp
          go_wp2_with (go_quiet (fail))
          go_roundw
          case rel => exact ⟨k + 1, by omega, by go_num, (by repeat (first | with_reducible assumption | with_reducible exact Grow.refl _ | with_reducible apply Grow.drewN | with_reducible apply Grow.drew | with_reducible apply Grow.alloc | (refine Grow.setCell ?_ (by simp; done) _))), H1.out rfl⟩
          case measure => simp [intOf]; omega
        · simp only [hpp, decide_false, Bool.not_false] at HN
          have HQ := Lib.hid (H2.out hpp)
          clear hpp H2 H1
          go_wp2_with (go_quiet (fail))
          go_ret
          exact ⟨ret_bool HQ.out.symm, (by repeat (first | with_reducible assumption | with_reducible exact Grow.refl _ | with_reducible apply Grow.drewN | with_reducible apply Grow.drew | with_reducible apply Grow.alloc | (refine Grow.setCell ?_ (by simp; done) _)))⟩
      · clear hel hel'
        have HE := Lib.hid (same_all HL.out (by omega) hE)
        go_wp2
        go_ret
        exact ⟨ret_bool (decide_eq_true HE.out).symm, hb⟩
  · have hb : ((l.length : Int) != l'.length) = true := by simp; omega
    have hE : decide (l = l') = false := by rw [decide_eq_false_iff_not]; rintro rfl; exact hlen rfl
    have HE := Lib.hid hE
    clear hlen hE hel hel'
    go_enter Try.func73, Try.ntmps73
    go_wp2
    go_ret
    exact ⟨ret_bool HE.out.symm, (by repeat (first | with_reducible assumption | with_reducible exact Grow.refl _ | with_reducible apply Grow.drewN | with_reducible apply Grow.drew | with_reducible apply Grow.alloc | (refine Grow.setCell ?_ (by simp; done) _)))⟩
end Go.Proofs.Ytgbhpghgohggcaa
