/- Walks: Fits of the program, RightSums, SameParts, Do of the reference. -/
import Derived.Test.YtgbhpghgohggcaaP2
namespace Go.Proofs.Ytgbhpghgohggcaa
open Go.RowKit

set_option maxHeartbeats 400000 in
theorem part_fits {v : Value} {l : List Pt} {s0 s1 s2 s3 : Int} (w : World) (hv : Pts w.cell? v l) (hk : KeysOk l) :
    Calls Try.prog 86 #[.agg #[.int .i64 s0, .int .i64 s1, .int .i64 s2, .int .i64 s3], v] w fun e w' => e = .returned (.int .i64 (fitsE (S4 s0 s1 s2 s3) l)) ∧ Grow w w' := by
  obtain ⟨a, cap, rfl, h1, h2, -, hel⟩ := hv
  unfold maxLen at h2
  go_enter Try.func86, Try.ntmps86
  go_wp2
  go_loopw [4, 10] (fun _ i wr => ∃ k : Nat, k ≤ l.length ∧ i = .int .i64 k ∧ Grow (w.alloc (.cells #[.int .i64 s0, .int .i64 s1, .int .i64 s2, .int .i64 s3] 25)) wr ∧ fitsE (S4 s0 s1 s2 s3) l = fitsE (S4 s0 s1 s2 s3) (l.drop k)) (fun _ i _ => l.length - (intOf i).toNat)
  case atStart => exact ⟨0, by omega, rfl, Grow.refl _, rfl⟩
  case round =>
    obtain ⟨k, hk', rfl, hb, hE⟩ := hrel
    have hbw := ((Grow.refl w).alloc _).trans hb
    by_cases hlt : k < l.length
    · obtain ⟨b, o, rfl, c0, c1, c2, -, -, -⟩ := Pts.at_ hel k hlt
      replace c0 := hbw.sub _ _ c0
      replace c1 := hbw.sub _ _ c1
      replace c2 := hbw.sub _ _ c2
      obtain ⟨hk0, hk1⟩ := hk l[k] (by simp)
      have cs : wr.cell? ⟨w.heap.size, l[k].k.toNat, none⟩ = some (.int .i64 (S4 s0 s1 s2 s3 l[k].k)) := hb.sub _ _ (by
        rw [World.cell?_alloc_new]; exact S4_cell s0 s1 s2 s3 _ hk0 hk1)
      have hsz : w.heap.size < wr.heap.size := by have := hb.size; simp at this; omega
      rw [List.drop_eq_getElem_cons hlt, fitsE] at hE
      clear hel hk
      generalize l[k].h = ph at *
      generalize l[k].k = pk at *
      generalize l[k].n = pn at *
      generalize S4 s0 s1 s2 s3 pk = spk at *
      have HE := Lib.hid hE
      clear hE
      go_wp2
      go_region
      all_goals go_wp2
      · go_ret
        exact ⟨ret_int (by rw [HE.out, if_pos ‹_›]), (by repeat (first | with_reducible assumption | with_reducible exact Grow.refl _ | with_reducible apply Grow.drewN | with_reducible apply Grow.drew | with_reducible apply Grow.alloc | (refine Grow.setCell ?_ (by simp; done) _)))⟩
      · go_ret
        rename_i t1 _ t2
        exact ⟨ret_int (by rw [HE.out, if_neg (by omega), if_pos t2]), (by repeat (first | with_reducible assumption | with_reducible exact Grow.refl _ | with_reducible apply Grow.drewN | with_reducible apply Grow.drew | with_reducible apply Grow.alloc | (refine Grow.setCell ?_ (by simp; done) _)))⟩
      · rename_i t1 _ t2
        go_roundw
        case rel => exact ⟨k + 1, by omega, by go_num, (by repeat (first | with_reducible assumption | with_reducible exact Grow.refl _ | with_reducible apply Grow.drewN | with_reducible apply Grow.drew | with_reducible apply Grow.alloc | (refine Grow.setCell ?_ (by simp; done) _))), by rw [HE.out, if_neg (by omega), if_neg (by omega)]⟩
        case measure => simp [intOf]; omega
    · go_wp2
      go_ret
      refine ⟨?_, hbw⟩
      rw [hE, List.drop_of_length_le (by omega)]
      rfl

def rightS (s : Sm) : Bool := decide (0 ≤ s.a ∧ s.a ≤ 1048576 ∧ 0 ≤ s.b ∧ s.b ≤ 1048576 ∧ 0 ≤ s.c ∧ s.c ≤ 1048576 ∧ 0 ≤ s.d ∧ s.d ≤ 1048576)
theorem rightS_iff (s : Sm) : rightS s = true ↔ ∀ k : Nat, k < 4 → 0 ≤ s.get k ∧ s.get k ≤ 1048576 := by
  unfold rightS Sm.get S4
  simp only [decide_eq_true_eq]
  constructor
  · rintro ⟨a, b, c, d, e, f, g, h⟩ k hk
    have : k = 0 ∨ k = 1 ∨ k = 2 ∨ k = 3 := by omega
    rcases this with rfl | rfl | rfl | rfl <;> simp <;> omega
  · intro h
    have h0 := h 0 (by omega)
    have h1 := h 1 (by omega)
    have h2 := h 2 (by omega)
    have h3 := h 3 (by omega)
    simp at h0 h1 h2 h3
    omega

set_option maxHeartbeats 400000 in
theorem ref_rightSums (w : World) (s : Sm) :
    Calls Try.prog 80 #[.agg #[.int .i64 s.a, .int .i64 s.b, .int .i64 s.c, .int .i64 s.d]] w fun e w' => e = .returned (.bool (rightS s)) ∧ Grow w w' := by
  have hix : ∀ (k : Nat) (w : World), k < 4 → (Instr.index 25 (.agg #[.int .i64 s.a, .int .i64 s.b, .int .i64 s.c, .int .i64 s.d]) (.int .i64 k)).run Try.prog w = .ok (.int .i64 (s.get k)) w := by
    intro k w hk
    have i0 : (Instr.index 25 (.agg #[.int .i64 s.a, .int .i64 s.b, .int .i64 s.c, .int .i64 s.d]) (.int .i64 0)).run Try.prog w = .ok (.int .i64 s.a) w := by kernel_rfl
    have i1 : (Instr.index 25 (.agg #[.int .i64 s.a, .int .i64 s.b, .int .i64 s.c, .int .i64 s.d]) (.int .i64 1)).run Try.prog w = .ok (.int .i64 s.b) w := by kernel_rfl
    have i2 : (Instr.index 25 (.agg #[.int .i64 s.a, .int .i64 s.b, .int .i64 s.c, .int .i64 s.d]) (.int .i64 2)).run Try.prog w = .ok (.int .i64 s.c) w := by kernel_rfl
    have i3 : (Instr.index 25 (.agg #[.int .i64 s.a, .int .i64 s.b, .int .i64 s.c, .int .i64 s.d]) (.int .i64 3)).run Try.prog w = .ok (.int .i64 s.d) w := by kernel_rfl
    have : k = 0 ∨ k = 1 ∨ k = 2 ∨ k = 3 := by omega
    rcases this with rfl | rfl | rfl | rfl
    · exact i0
    · exact i1
    · exact i2
    · exact i3
  go_enter Try.func80, Try.ntmps80
  go_wp2
  go_loopw [2, 6] (fun _ i wr => ∃ k : Nat, k ≤ 4 ∧ i = .int .i64 k ∧ Grow w wr ∧ ∀ j : Nat, j < k → 0 ≤ s.get j ∧ s.get j ≤ 1048576) (fun _ i _ => 4 - (intOf i).toNat)
  case atStart => exact ⟨0, by omega, rfl, (by repeat (first | with_reducible assumption | with_reducible exact Grow.refl _ | with_reducible apply Grow.drewN | with_reducible apply Grow.drew | with_reducible apply Grow.alloc | (refine Grow.setCell ?_ (by simp; done) _))), fun j h => by omega⟩
  case round =>
    obtain ⟨k, hk', rfl, hb, hE⟩ := hrel
    have HE := Lib.hid hE
    clear hE
    by_cases hlt : k < 4
    · have hi := fun w => hix k w hlt
      have HG : ∀ x : Int, s.get k = x → (rightS s = false ∨ (0 ≤ x ∧ x ≤ 1048576)) := by
        intro x hx
        by_cases h : rightS s = true
        · right; have := (rightS_iff s).1 h k hlt; omega
        · left; simpa using h
      have HN : ∀ x : Int, s.get k = x → 0 ≤ x → x ≤ 1048576 → ∀ j : Nat, j < k + 1 → 0 ≤ s.get j ∧ s.get j ≤ 1048576 := by
        intro x hx h0 h1 j hj
        by_cases h : j = k
        · subst h; omega
        · exact HE.out j (by omega)
      generalize hx : s.get k = x at *
      have H1 := Lib.hid (HG x rfl)
      have H2 := Lib.hid (HN x rfl)
      clear HG HN hx hix
      by_cases t1 : x < 0
      · go_wp2
        go_ret
        exact ⟨ret_bool (by rcases H1.out with h | h; exact h.symm; omega), (by repeat (first | with_reducible assumption | with_reducible exact Grow.refl _ | with_reducible apply Grow.drewN | with_reducible apply Grow.drew | with_reducible apply Grow.alloc | (refine Grow.setCell ?_ (by simp; done) _)))⟩
      · by_cases t2 : 1048576 < x
        · go_wp2
          go_ret
          exact ⟨ret_bool (by rcases H1.out with h | h; exact h.symm; omega), (by repeat (first | with_reducible assumption | with_reducible exact Grow.refl _ | with_reducible apply Grow.drewN | with_reducible apply Grow.drew | with_reducible apply Grow.alloc | (refine Grow.setCell ?_ (by simp; done) _)))⟩
        · go_wp2
          go_roundw
          case rel => exact ⟨k + 1, by omega, by go_num, (by repeat (first | with_reducible assumption | with_reducible exact Grow.refl _ | with_reducible apply Grow.drewN | with_reducible apply Grow.drew | with_reducible apply Grow.alloc | (refine Grow.setCell ?_ (by simp; done) _))), H2.out (by omega) (by omega)⟩
          case measure => simp [intOf]; omega
    · clear hix
      go_wp2
      go_ret
      exact ⟨ret_bool ((rightS_iff s).2 fun j hj => HE.out j (by omega)).symm, hb⟩
end Go.Proofs.Ytgbhpghgohggcaa
