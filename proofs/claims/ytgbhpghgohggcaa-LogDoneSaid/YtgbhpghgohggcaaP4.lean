/- Walks: SameParts. -/
import Derived.Test.YtgbhpghgohggcaaP3
namespace Go.Proofs.Ytgbhpghgohggcaa
open Go.RowKit

theorem guard_pt : Try.prog.eqGuardType Try.prog.depth 32 = false := by kernel_rfl
theorem eql_pt (p q : Pt) (w : World) : (binOp .eql 32 (.agg #[.int .i64 p.h, .int .i64 p.k, .int .i64 p.n]) (.agg #[.int .i64 q.h, .int .i64 q.k, .int .i64 q.n])).run Try.prog w = .ok (.bool (decide (p = q))) w := by
  have u3 := Try.underlying3
  have a3 := Try.isAgg3
  have z3 := Try.sizeOf3
  have hS : Try.prog.underlying 32 = some (.struct (Try.prog.fieldsOf 32)) := by kernel_rfl
  have hp : Try.prog.stoodInHeld 32 = false := by kernel_rfl
  rw [run_eql_struct, show (10000 : Nat) = 9999 + 1 from rfl, run_equalIn_agg w 9999 32 _ _ hS hp]
  simp only [Program.fieldsOf, Try.underlying32]
  obtain ⟨a, b, c⟩ := p
  obtain ⟨a', b', c'⟩ := q
  go_simp
  by_cases h1 : a = a' <;> by_cases h2 : b = b' <;> by_cases h3 : c = c' <;> simp [h1, h2, h3]
theorem neq_pt (p q : Pt) (w : World) : (binOp .neq 32 (.agg #[.int .i64 p.h, .int .i64 p.k, .int .i64 p.n]) (.agg #[.int .i64 q.h, .int .i64 q.k, .int .i64 q.n])).run Try.prog w = .ok (.bool (!decide (p = q))) w := by
  have h := eql_pt p q w
  rw [run_eql_struct] at h
  rw [run_neq_struct]
  cases hr : (Op.equalIn 10000 32 (.agg #[.int .i64 p.h, .int .i64 p.k, .int .i64 p.n]) (.agg #[.int .i64 q.h, .int .i64 q.k, .int .i64 q.n])).run Try.prog w with
  | ok b w' => rw [hr] at h; simp only [Result.andThen_ok, Result.ok.injEq, Value.bool.injEq] at h ⊢; exact ⟨by rw [h.1], h.2⟩
  | halt x w' => rw [hr] at h; simp [Result.andThen] at h

set_option maxHeartbeats 400000 in
theorem ref_sameParts {v v' : Value} {l l' : List Pt} (w : World) (hv : Pts w.cell? v l) (hv' : Pts w.cell? v' l') :
    Calls Try.prog 84 #[v, v'] w fun e w' => e = .returned (.bool (decide (l = l'))) ∧ Grow w w' := by
  obtain ⟨a, cap, rfl, h1, h2, -, hel⟩ := hv
  obtain ⟨a', cap', rfl, h1', h2', -, hel'⟩ := hv'
  unfold maxLen at h2 h2'
  by_cases hlen : l.length = l'.length
  · have hb : ((l.length : Int) != l'.length) = false := by simp [hlen]
    have HL := Lib.hid hlen
    clear hlen
    go_enter Try.func84, Try.ntmps84
    go_wp2
    go_loopw [4, 5, 13] (fun _ _ i wr => ∃ k : Nat, k ≤ l.length ∧ i = .int .i64 k ∧ Grow w wr ∧ ∀ j, j < k → l[j]? = l'[j]?) (fun _ _ i _ => l.length - (intOf i).toNat)
    case atStart => exact ⟨0, by omega, rfl, (by repeat (first | with_reducible assumption | with_reducible exact Grow.refl _ | with_reducible apply Grow.drewN | with_reducible apply Grow.drew | with_reducible apply Grow.alloc | (refine Grow.setCell ?_ (by simp; done) _))), fun j h => by omega⟩
    case round =>
      obtain ⟨k, hk', rfl, hb, hE⟩ := hrel
      have HE := Lib.hid hE
      clear hE
      by_cases hlt : k < l.length
      · have hlt' : k < l'.length := by have := HL.out; omega
        obtain ⟨b, o, rfl, c0, c1, c2, -, -, -⟩ := Pts.at_ hel k hlt
        obtain ⟨b', o', rfl, c0', c1', c2', -, -, -⟩ := Pts.at_ hel' k hlt'
        replace c0 := hb.sub _ _ c0
        replace c1 := hb.sub _ _ c1
        replace c2 := hb.sub _ _ c2
        replace c0' := hb.sub _ _ c0'
        replace c1' := hb.sub _ _ c1'
        replace c2' := hb.sub _ _ c2'
        clear hel hel'
        generalize hp : l[k] = p at *
        generalize hp' : l'[k] = p' at *
        have HP := Lib.hid hp
        have HP' := Lib.hid hp'
        clear hp hp'
        have hg := guard_pt
        have HN : ∀ w, (binOp .neq 32 (.agg #[.int .i64 p.h, .int .i64 p.k, .int .i64 p.n]) (.agg #[.int .i64 p'.h, .int .i64 p'.k, .int .i64 p'.n])).run Try.prog w = .ok (.bool (!decide (p = p'))) w := fun w => neq_pt p p' w
        by_cases hpp : p = p'
        · simp only [hpp, decide_true, Bool.not_true] at HN
          have HQ := Lib.hid hpp
          subst hpp
          go_wp2_with (go_quiet (fail))
          go_roundw
          case rel => exact ⟨k + 1, by omega, by go_num, (by repeat (first | with_reducible assumption | with_reducible exact Grow.refl _ | with_reducible apply Grow.drewN | with_reducible apply Grow.drew | with_reducible apply Grow.alloc | (refine Grow.setCell ?_ (by simp; done) _))), fun j hj => by
            by_cases h : j = k
            · subst h; rw [List.getElem?_eq_getElem hlt, List.getElem?_eq_getElem hlt', HP.out, HP'.out]
            · exact HE.out j (by omega)⟩
          case measure => simp [intOf]; omega
        · simp only [hpp, decide_false, Bool.not_false] at HN
          have HQ := Lib.hid hpp
          clear hpp
          go_wp2_with (go_quiet (fail))
          go_ret
          exact ⟨ret_bool (by
            rw [eq_comm, decide_eq_false_iff_not]; rintro rfl; exact HQ.out (by rw [← HP.out, ← HP'.out])), (by repeat (first | with_reducible assumption | with_reducible exact Grow.refl _ | with_reducible apply Grow.drewN | with_reducible apply Grow.drew | with_reducible apply Grow.alloc | (refine Grow.setCell ?_ (by simp; done) _)))⟩
      · clear hel hel'
        go_wp2
        go_ret
        refine ⟨ret_bool ?_, hb⟩
        rw [eq_comm, decide_eq_true_eq]
        apply List.ext_getElem?
        intro j
        by_cases h : j < k
        · exact HE.out j h
        · rw [List.getElem?_eq_none (by omega), List.getElem?_eq_none (by have := HL.out; omega)]
  · have hb : ((l.length : Int) != l'.length) = true := by simp; omega
    have hE : decide (l = l') = false := by rw [decide_eq_false_iff_not]; rintro rfl; exact hlen rfl
    have HE := Lib.hid hE
    clear hlen hE hel hel'
    go_enter Try.func84, Try.ntmps84
    go_wp2
    go_ret
    exact ⟨ret_bool HE.out.symm, (by repeat (first | with_reducible assumption | with_reducible exact Grow.refl _ | with_reducible apply Grow.drewN | with_reducible apply Grow.drew | with_reducible apply Grow.alloc | (refine Grow.setCell ?_ (by simp; done) _)))⟩
end Go.Proofs.Ytgbhpghgohggcaa
