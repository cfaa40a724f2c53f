/- Walks: log.Own of the program: copies that lie in new memory. -/
import Derived.Test.YtgbhpghgohggcaaN5
import Derived.Test.YtgbhpghgohggcaaClone
namespace Go.Proofs.Ytgbhpghgohggcaa
open Go.RowKit
/-- what is newer than W0, but for some blocks -/
def fr (W0 w : World) (X : List (Option Nat)) : CM := fun a => if a.block < W0.heap.size ∨ some a.block ∈ X then none else w.cell? a
theorem fr_sub (W0 w : World) (X : List (Option Nat)) : Sub (fr W0 w X) w.cell? := fun a v e => by
  unfold fr at e
  split at e
  · cases e
  · exact e
theorem fr_ov (c : CM) (W0 w : World) (X : List (Option Nat)) : Sub (fr W0 w X) (ov c W0 w) := fun a v e => by
  unfold fr at e
  split at e
  · cases e
  · rename_i h
    rw [ov_new (by omega)]; exact e
theorem fr_new {W0 w : World} {X : List (Option Nat)} {a : Addr} (h : W0.heap.size ≤ a.block) (hx : some a.block ∉ X) : fr W0 w X a = w.cell? a := by
  unfold fr
  rw [if_neg (by rintro (h1 | h1); omega; exact hx h1)]
theorem fr_step {W0 w w' : World} {X X' : List (Option Nat)} (h : ∀ k, k < w.heap.size → W0.heap.size ≤ k → some k ∉ X → w'.heap[k]? = w.heap[k]? ∧ some k ∉ X') : Sub (fr W0 w X) (fr W0 w' X') := fun a v e => by
  unfold fr at e
  split at e
  · cases e
  · rename_i hn
    have h1 : ¬ a.block < W0.heap.size := fun hx => hn (.inl hx)
    have h2 : some a.block ∉ X := fun hx => hn (.inr hx)
    obtain ⟨h3, h4⟩ := h a.block (World.block_lt_of_cell? w a e) (by omega) h2
    rw [fr_new (by omega) h4, World.cell?_of_block h3]
    exact e
theorem fr_grow {W0 w w' : World} {X : List (Option Nat)} (h : Grow w w') : Sub (fr W0 w X) (fr W0 w' X) := fr_step fun k hk _ hx => ⟨h.block k hk, hx⟩
theorem fr_app {W0 w w' : World} {v v' : Value} (hg : w.grownBy w' v.ownBlock) (hb : v'.ownBlock = v.ownBlock ∨ ∃ g, v'.ownBlock = some g ∧ w.heap.size ≤ g) : Sub (fr W0 w [v.ownBlock]) (fr W0 w' [v'.ownBlock]) :=
  fr_step fun k hk _ hx => ⟨hg.block k hk (by simpa using hx), by
    rcases hb with hb | ⟨g, hb, hge⟩
    · rw [hb]; exact hx
    · rw [hb]; simp; omega⟩
/-- a row that a call gave reads in new memory -/
theorem pts_fr {W0 w1 w : World} {v : Value} {l : List Pt} {X : List (Option Nat)} (h : w.ownsRow w1.heap.size 32 3 v l.length (l.flatMap Pt.cells)) (hok : PtsOk l) (hW : W0.heap.size ≤ w1.heap.size) (hX : ∀ k, w1.heap.size ≤ k → some k ∉ X) : Sl Ty.pt (fr W0 w X) v l :=
  (OwnC.pts (c := fr W0 w X) h hok).slc (by decide) (Sub.refl _) fun a ha => fr_new (by omega) (hX _ ha)
set_option maxRecDepth 100000 in
set_option maxHeartbeats 1000000 in
theorem log_own {v : Value} {l : List Rc} (w : World) (hv : Rcs w.cell? v l) (hm : l.length * 40 ≤ 140737488355328) (hp : ∀ r ∈ l, r.parts.length * 24 ≤ 140737488355328) :
    Calls Try.prog 40 #[v] w fun e w' => ∃ v', e = .returned v' ∧ OwnC Ty.rc (fr w w' [v'.ownBlock]) w' w.heap.size 48 v' l ∧ Grow w w' := by
  obtain ⟨a, cap, rfl, h1, h2, -, hel⟩ := hv
  unfold maxLen at h2
  have HM := Lib.hid hm
  have HP := Lib.hid hp
  clear hm hp
  go_enter Try.func40, Try.ntmps40
  go_wp2
  go_loopw [3, 8] (fun s3 i wr => ∃ k : Nat, k ≤ l.length ∧ i = .int .i64 k ∧ Grow w wr ∧ OwnC Ty.rc (fr w wr [s3.ownBlock]) wr w.heap.size 48 s3 (l.take k)) (fun _ i _ => l.length - (intOf i).toNat)
  case atStart => exact ⟨0, by omega, rfl, Grow.refl _, OwnC.nil _ _ _ _ _⟩
  case round =>
    obtain ⟨k, hk', rfl, hb, hown⟩ := hrel
    by_cases hlt : k < l.length
    · obtain ⟨b, o, vp, rfl, c0, c1, c2, i0, i1, hP⟩ := Rcs.at_ hel k hlt
      obtain ⟨ap, cp, rfl, -⟩ := id hP
      replace c0 := hb.sub _ _ c0
      replace c1 := hb.sub _ _ c1
      replace c2 := hb.sub _ _ c2
      have htk : l.take (k + 1) = l.take k ++ [l[k]] := by rw [List.take_succ_eq_append_getElem hlt]
      have HTK := Lib.hid htk
      have hpl := HP.out l[k] (List.getElem_mem _)
      have hok := Pts.ok (c := w.cell?) hP
      have HCL := Lib.hid (fun (W : World) (hW : Grow wr W) => clone_pt W (hP.mono (hb.trans hW).sub) hpl)
      have hlk : (l.take k).length = k := by simp; omega
      have HOWN := Lib.hid hown
      have HI := Lib.hid (And.intro i0 (And.intro i1 hok))
      obtain ⟨av, cv, rfl⟩ := hown.form
      clear hel hP htk hpl hok hown i0 i1
      generalize l[k] = r at *
      generalize hlt' : l.take k = lk at *
      have HLT := Lib.hid hlt'
      have HLK := Lib.hid hlk
      clear hlt' hlk
      go_wp2_with fail
      refine (HCL.out _ ((Grow.refl _).alloc _)).mono ?_
      rintro e w2 ⟨v2, rfl, ho2, hb2⟩
      obtain ⟨a2, cap2, rfl⟩ := owns_form ho2
      have HO2 := Lib.hid ho2
      have HB2 := Lib.hid hb2
      obtain ⟨cw2, fw2⟩ := bcell hb2
      have z2 : wr.heap.size < w2.heap.size := by have := hb2.size; simp at this; omega
      clear ho2 hb2
      have HG3 : Hid (Grow wr (w2.setCell ⟨wr.heap.size, 2, none⟩ (.slice a2 r.parts.length cap2))) := Lib.hid ((((Grow.refl wr).alloc _).trans HB2.out).setCell (by simp) _)
      go_wp2_with (first | (at_builtin; refine wpList_appc (c := fr w ((w2.setCell ⟨wr.heap.size, 2, none⟩ (.slice a2 r.parts.length cap2)).alloc (.cells #[.int .i64 r.kind, .int .i64 r.deed, .slice a2 r.parts.length cap2] 48)) [(Value.slice av lk.length cv).ownBlock]) (base := w.heap.size) (l := lk) (m := [r]) ei_rc rfl one_Trc (by decide) rfl (.tmp 16) (.tmp 18) rfl rfl ?own rfl (Src.of_new (cs := #[.int .i64 r.kind, .int .i64 r.deed, .slice a2 r.parts.length cap2]) ?d0 _ _ ?d1) ?d2 ?d3 ?_))
      case own => exact (HOWN.out.mono (fr_grow (HG3.out.alloc _))).grow (HG3.out.alloc _)
      case d0 =>
        refine ⟨_, rfl, HI.out.1, HI.out.2.1, ?_⟩
        have hlt2 := HOWN.out.lt
        refine pts_fr (w1 := wr.alloc (.cells #[.int .i64 r.kind, .int .i64 r.deed, .slice ap r.parts.length cp] 48)) ?_ HI.out.2.2 ?_ ?_
        · exact (HO2.out.kept (grownBy_setCell w2 ⟨wr.heap.size, 2, none⟩ _) (by
            cases e : (Value.slice a2 r.parts.length cap2).ownBlock with
            | none => exact .inl rfl
            | some q => right; have := (HO2.out.lt q e).1; simp at this ⊢; omega)).alloc _
        · have := hb.size; simp; omega
        · intro q hq
          simp only [List.mem_singleton]
          intro e
          have := (hlt2 q e.symm).2
          simp at hq; omega
      case d1 => simp
      case d2 => have := HM.out; have := HLK.out; simp; omega
      case d3 => have := (HG3.out.alloc (.cells #[.int .i64 r.kind, .int .i64 r.deed, .slice a2 r.parts.length cap2] 48)).size; have := hb.size; omega
      intro a5 c5 w5 hown5 hg5 hb5
      have hG5 : Grow w w5 := grow_by (w0 := w) (hb.trans (HG3.out.alloc _)) hg5 (fun q hq => (HOWN.out.lt q hq).1)
      have HO5 := Lib.hid (hown5.mono (fr_app hg5 (hb5.imp_right fun ⟨g, e, hge⟩ => ⟨g, e, by simpa using hge⟩)))
      have HG5 := Lib.hid hG5
      clear hown5 hg5 hb5 hG5 cw2 fw2
      go_wp2
      go_roundw
      case rel => exact ⟨k + 1, by omega, by go_num, HG5.out, by rw [HTK.out]; exact HO5.out⟩
      case measure => simp [intOf]; omega
    · clear hel
      go_wp2
      go_ret
      have h9 := hown
      rw [List.take_of_length_le (by omega)] at h9
      exact ⟨_, rfl, h9, hb⟩
end Go.Proofs.Ytgbhpghgohggcaa
