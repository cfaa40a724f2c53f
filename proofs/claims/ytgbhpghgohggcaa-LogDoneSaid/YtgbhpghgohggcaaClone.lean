/- Walks: slices.Clone at parts, ints, bytes, sums. -/
import Derived.Test.YtgbhpghgohggcaaTy
namespace Go.Proofs.Ytgbhpghgohggcaa
open Go.RowKit

set_option maxHeartbeats 400000 in
theorem clone_pt {v : Value} {l : List Pt} (w : World) (hv : Sl Ty.pt w.cell? v l) (hm : l.length * 24 ≤ 140737488355328) :
    Calls Try.prog 122 #[v] w fun e w' => ∃ v', e = .returned v' ∧ w'.ownsRow w.heap.size 32 3 v' l.length (l.flatMap Pt.cells) ∧ Grow w w' := by
  obtain ⟨a, cap, rfl, h1, h2, h0, hel⟩ := hv
  have hnil := fun w : World => Go.Lib.run_eql_slice_nil (P := Try.prog) w 23 32 a l.length cap 0 0 ei_pt.ht
  cases a with
  | none =>
    obtain rfl := h0 rfl
    have hl : l = [] := by
      cases l with
      | nil => rfl
      | cons x l => obtain ⟨_, _, _, h, _⟩ := hel 0 x rfl; cases h
    subst hl
    have hnil' := fun w : World => Go.Lib.run_eql_slice_nil (P := Try.prog) w 23 32 none 0 0 0 0 ei_pt.ht
    simp only [Option.isNone_none] at hnil'
    clear hel h0 hm h1 h2 hnil
    show Calls _ _ #[.slice none 0 0] _ _
    go_enter Try.func122, Try.ntmps122
    go_wp2
    go_ret
    exact ⟨_, rfl, World.ownsRow_nil _ _ _ _, (by repeat (first | with_reducible assumption | with_reducible exact Grow.refl _ | with_reducible apply Grow.drewN | with_reducible apply Grow.drew | with_reducible apply Grow.alloc | (refine Grow.setCell ?_ (by simp; done) _)))⟩
  | some ad =>
    have hc := flat_cells (f := Pt.cells) (size := 3) (by decide) (fun _ => rfl) (c := w.cell?) (a := some ad) (l := l) (fun i x e => by
      obtain ⟨b, o, cs, ha, ⟨rfl, -⟩, hA⟩ := hel i x e
      exact ⟨b, o, ha, hA⟩) ad rfl
    have hlen : (l.flatMap Pt.cells).length = l.length * 3 := flat_len (f := Pt.cells) (size := 3) (fun _ => rfl) l
    have h1c : ∀ u ∈ l.flatMap Pt.cells, u.oneCell' = true := flat_one one_pt l
    simp only [Option.isNone_some] at hnil
    have HC := Lib.hid hc
    have HM := Lib.hid hm
    clear hel hc hm h2
    go_enter Try.func122, Try.ntmps122
    go_wp2_with (at_builtin; go_loud (refine app_own (W := w) ei_pt rfl _ _ rfl ((Grow.refl w).alloc _) rfl (World.ownsRow_made w #[] 0 (Nat.le_refl _) (Nat.zero_le _) rfl) ad l.length cap (l.flatMap Pt.cells) rfl hlen ?_ ?_ ?_ ?_ ?_))
    · intro j u hu; exact ((Grow.refl w).alloc _).sub _ _ (HC.out j u hu)
    · exact h1c
    · have := HM.out; unfold maxLen; omega
    · have := HM.out; omega
    · intro v' w' hown hG _
      go_wp2
      go_ret
      exact ⟨_, rfl, by simpa using hown, hG⟩

set_option maxHeartbeats 400000 in
theorem clone_int {v : Value} {l : List Int} (w : World) (hv : Sl Ty.int w.cell? v l) (hm : l.length * 8 ≤ 140737488355328) :
    Calls Try.prog 150 #[v] w fun e w' => ∃ v', e = .returned v' ∧ w'.ownsRow w.heap.size 3 1 v' l.length (l.flatMap intCell) ∧ Grow w w' := by
  obtain ⟨a, cap, rfl, h1, h2, h0, hel⟩ := hv
  have hnil := fun w : World => Go.Lib.run_eql_slice_nil (P := Try.prog) w 27 3 a l.length cap 0 0 ei_int.ht
  cases a with
  | none =>
    obtain rfl := h0 rfl
    have hl : l = [] := by
      cases l with
      | nil => rfl
      | cons x l => obtain ⟨_, _, _, h, _⟩ := hel 0 x rfl; cases h
    subst hl
    have hnil' := fun w : World => Go.Lib.run_eql_slice_nil (P := Try.prog) w 27 3 none 0 0 0 0 ei_int.ht
    simp only [Option.isNone_none] at hnil'
    clear hel h0 hm h1 h2 hnil
    show Calls _ _ #[.slice none 0 0] _ _
    go_enter Try.func150, Try.ntmps150
    go_wp2
    go_ret
    exact ⟨_, rfl, World.ownsRow_nil _ _ _ _, (by repeat (first | with_reducible assumption | with_reducible exact Grow.refl _ | with_reducible apply Grow.drewN | with_reducible apply Grow.drew | with_reducible apply Grow.alloc | (refine Grow.setCell ?_ (by simp; done) _)))⟩
  | some ad =>
    have hc := flat_cells (f := intCell) (size := 1) (by decide) (fun _ => rfl) (c := w.cell?) (a := some ad) (l := l) (fun i x e => by
      obtain ⟨b, o, cs, ha, ⟨rfl, -⟩, hA⟩ := hel i x e
      exact ⟨b, o, ha, hA⟩) ad rfl
    have hlen : (l.flatMap intCell).length = l.length * 1 := flat_len (f := intCell) (size := 1) (fun _ => rfl) l
    have h1c : ∀ u ∈ l.flatMap intCell, u.oneCell' = true := flat_one one_int l
    simp only [Option.isNone_some] at hnil
    have HC := Lib.hid hc
    have HM := Lib.hid hm
    clear hel hc hm h2
    go_enter Try.func150, Try.ntmps150
    go_wp2_with (at_builtin; go_loud (refine app_own (W := w) ei_int rfl _ _ rfl ((Grow.refl w).alloc _) rfl (World.ownsRow_made w #[] 0 (Nat.le_refl _) (Nat.zero_le _) rfl) ad l.length cap (l.flatMap intCell) rfl hlen ?_ ?_ ?_ ?_ ?_))
    · intro j u hu; exact ((Grow.refl w).alloc _).sub _ _ (HC.out j u hu)
    · exact h1c
    · have := HM.out; unfold maxLen; omega
    · have := HM.out; omega
    · intro v' w' hown hG _
      go_wp2
      go_ret
      exact ⟨_, rfl, by simpa using hown, hG⟩

set_option maxHeartbeats 400000 in
theorem clone_byte {v : Value} {l : List UInt8} (w : World) (hv : Sl Ty.byte w.cell? v l) (hm : l.length * 1 ≤ 140737488355328) :
    Calls Try.prog 131 #[v] w fun e w' => ∃ v', e = .returned v' ∧ w'.ownsRow w.heap.size 5 1 v' l.length (l.flatMap byteCell) ∧ Grow w w' := by
  obtain ⟨a, cap, rfl, h1, h2, h0, hel⟩ := hv
  have hnil := fun w : World => Go.Lib.run_eql_slice_nil (P := Try.prog) w 69 5 a l.length cap 0 0 ei_byte.ht
  cases a with
  | none =>
    obtain rfl := h0 rfl
    have hl : l = [] := by
      cases l with
      | nil => rfl
      | cons x l => obtain ⟨_, _, _, h, _⟩ := hel 0 x rfl; cases h
    subst hl
    have hnil' := fun w : World => Go.Lib.run_eql_slice_nil (P := Try.prog) w 69 5 none 0 0 0 0 ei_byte.ht
    simp only [Option.isNone_none] at hnil'
    clear hel h0 hm h1 h2 hnil
    show Calls _ _ #[.slice none 0 0] _ _
    go_enter Try.func131, Try.ntmps131
    go_wp2
    go_ret
    exact ⟨_, rfl, World.ownsRow_nil _ _ _ _, (by repeat (first | with_reducible assumption | with_reducible exact Grow.refl _ | with_reducible apply Grow.drewN | with_reducible apply Grow.drew | with_reducible apply Grow.alloc | (refine Grow.setCell ?_ (by simp; done) _)))⟩
  | some ad =>
    have hc := flat_cells (f := byteCell) (size := 1) (by decide) (fun _ => rfl) (c := w.cell?) (a := some ad) (l := l) (fun i x e => by
      obtain ⟨b, o, cs, ha, rfl, hA⟩ := hel i x e
      exact ⟨b, o, ha, hA⟩) ad rfl
    have hlen : (l.flatMap byteCell).length = l.length * 1 := flat_len (f := byteCell) (size := 1) (fun _ => rfl) l
    have h1c : ∀ u ∈ l.flatMap byteCell, u.oneCell' = true := flat_one one_byte l
    simp only [Option.isNone_some] at hnil
    have HC := Lib.hid hc
    have HM := Lib.hid hm
    clear hel hc hm h2
    go_enter Try.func131, Try.ntmps131
    go_wp2_with (at_builtin; go_loud (refine app_own (W := w) ei_byte rfl _ _ rfl ((Grow.refl w).alloc _) rfl (World.ownsRow_made w #[] 0 (Nat.le_refl _) (Nat.zero_le _) rfl) ad l.length cap (l.flatMap byteCell) rfl hlen ?_ ?_ ?_ ?_ ?_))
    · intro j u hu; exact ((Grow.refl w).alloc _).sub _ _ (HC.out j u hu)
    · exact h1c
    · have := HM.out; unfold maxLen; omega
    · have := HM.out; omega
    · intro v' w' hown hG _
      go_wp2
      go_ret
      exact ⟨_, rfl, by simpa using hown, hG⟩

set_option maxHeartbeats 400000 in
theorem clone_sm {v : Value} {l : List Sm} (w : World) (hv : Sl Ty.sm w.cell? v l) (hm : l.length * 32 ≤ 140737488355328) :
    Calls Try.prog 144 #[v] w fun e w' => ∃ v', e = .returned v' ∧ w'.ownsRow w.heap.size 25 4 v' l.length (l.flatMap Sm.cells) ∧ Grow w w' := by
  obtain ⟨a, cap, rfl, h1, h2, h0, hel⟩ := hv
  have hnil := fun w : World => Go.Lib.run_eql_slice_nil (P := Try.prog) w 98 25 a l.length cap 0 0 ei_sm.ht
  cases a with
  | none =>
    obtain rfl := h0 rfl
    have hl : l = [] := by
      cases l with
      | nil => rfl
      | cons x l => obtain ⟨_, _, _, h, _⟩ := hel 0 x rfl; cases h
    subst hl
    have hnil' := fun w : World => Go.Lib.run_eql_slice_nil (P := Try.prog) w 98 25 none 0 0 0 0 ei_sm.ht
    simp only [Option.isNone_none] at hnil'
    clear hel h0 hm h1 h2 hnil
    show Calls _ _ #[.slice none 0 0] _ _
    go_enter Try.func144, Try.ntmps144
    go_wp2
    go_ret
    exact ⟨_, rfl, World.ownsRow_nil _ _ _ _, (by repeat (first | with_reducible assumption | with_reducible exact Grow.refl _ | with_reducible apply Grow.drewN | with_reducible apply Grow.drew | with_reducible apply Grow.alloc | (refine Grow.setCell ?_ (by simp; done) _)))⟩
  | some ad =>
    have hc := flat_cells (f := Sm.cells) (size := 4) (by decide) (fun _ => rfl) (c := w.cell?) (a := some ad) (l := l) (fun i x e => by
      obtain ⟨b, o, cs, ha, ⟨rfl, -⟩, hA⟩ := hel i x e
      exact ⟨b, o, ha, hA⟩) ad rfl
    have hlen : (l.flatMap Sm.cells).length = l.length * 4 := flat_len (f := Sm.cells) (size := 4) (fun _ => rfl) l
    have h1c : ∀ u ∈ l.flatMap Sm.cells, u.oneCell' = true := flat_one one_sm l
    simp only [Option.isNone_some] at hnil
    have HC := Lib.hid hc
    have HM := Lib.hid hm
    clear hel hc hm h2
    go_enter Try.func144, Try.ntmps144
    go_wp2_with (at_builtin; go_loud (refine app_own (W := w) ei_sm rfl _ _ rfl ((Grow.refl w).alloc _) rfl (World.ownsRow_made w #[] 0 (Nat.le_refl _) (Nat.zero_le _) rfl) ad l.length cap (l.flatMap Sm.cells) rfl hlen ?_ ?_ ?_ ?_ ?_))
    · intro j u hu; exact ((Grow.refl w).alloc _).sub _ _ (HC.out j u hu)
    · exact h1c
    · have := HM.out; unfold maxLen; omega
    · have := HM.out; omega
    · intro v' w' hown hG _
      go_wp2
      go_ret
      exact ⟨_, rfl, by simpa using hown, hG⟩

end Go.Proofs.Ytgbhpghgohggcaa
