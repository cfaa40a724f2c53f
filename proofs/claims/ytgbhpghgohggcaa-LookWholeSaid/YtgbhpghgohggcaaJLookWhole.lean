/- LookWhole: nothing wrong is ever seen: whatever steps there were, a world is whole; and where nothing is open it is even. No condition beside the given statement's own. -/
import Derived.Test.YtgbhpghgohggcaaJLookWholea
namespace Go.Proofs.Ytgbhpghgohggcaa.LookWholeDone
open Go.ChangeShapes Go.WideShapes Go.ChangeAt Go.RowKit
set_option maxRecDepth 100000 in
theorem lifted (os : Os) (started : os.Started) (H : Type) (enc : TypeId × Value → H) :
    ReturnsInHanded {} Try.checked os 23 .any (Rows.lookWholeSpec.pre6 enc Try.prog Try.f23 Rows.lookWholeRow.domain false) (Rows.lookWholeSpec.post enc Try.prog Try.f23 false true false false) := by
  refine returnsInHanded_of_change_sized (C := Try.checked) own started (by kernel_rfl) Try.func23
    (ChangeSpec.witness6 (enc := enc) (C := Try.checked) false ⟨#[], #[.int .i64 0, .slice none 0 0], []⟩ 8 (by kernel_rfl) (by kernel_rfl) (by kernel_rfl) (by kernel_rfl)) ?_
  intro W base args ds gs before hval0 hW hcnd hsz0 _
  have hval : ∀ (j : Nat) t v, Try.f23.params[j]? = some t → args[j]? = some v → Value.okWide Try.prog W .any base t v := hval0
  have hW' := hW
  obtain ⟨p, q, hA0, hV, rfl, hfz, hnd⟩ := hW
  have hA : DataW.TrodAll enc Try.prog W 0 (fun _ => true) true Try.f23.params.toList args.toList ds p := hA0
  rw [show Try.f23.params = #[3, 90] by kernel_rfl] at hA hval
  obtain ⟨v0, vs0, d0, ds0, p0, q0, hargs, rfl, rfl, h0, r0⟩ := trodAll_cons hA
  obtain ⟨v1, vs1, d1, ds1, p1, q1, rfl, rfl, rfl, h1, r1⟩ := trodAll_cons r0
  obtain ⟨rfl, rfl, rfl⟩ := trodAll_nil r1
  obtain rfl : args = #[v0, v1] := by cases args; simp_all
  obtain ⟨rfl, rfl⟩ := trodVars_none hV
  have hsz : (DataW.weightsEach Try.prog [3, 90] [d0, d1]).all (· ≤ reachBytes) = true := hsz0
  have k1 := h1
  have lt1 : ∀ x ∈ p1, x.block < W.heap.size := by obtain ⟨m, hm⟩ := k1; exact DataW.trod_lt m _ _ _ hm
  have rc1 := hval 1 _ v1 rfl rfl
  obtain ⟨a0, rfl, rfl, rfl, w0⟩ := open_int (show Try.prog.underlying 3 = some (.int .i64) by kernel_rfl) (hval 0 _ v0 rfl rfl) h0
  obtain ⟨l1, hl1⟩ := arg_sl (e := 164) reads_sts (by kernel_rfl) rc1 k1
  have hs1 := arg_size (e := 164) (by kernel_rfl) (show Try.prog.bytesOf 164 = 40 by kernel_rfl) hsz (j := 1) rfl rfl rc1 k1 hl1
  clear hA0 hval0
  refine (lookWhole_walk W w0 hl1 hs1).mono fun e W' ⟨he, bel⟩ => ?_
  subst he
  exact ⟨_, rfl, _, _, _, [], _, [], hW', trodAll_mk1 (shut_bool (show Try.prog.underlying 4 = some .bool by kernel_rfl) _),
    (trodAll_cons_mk (shut_int (show Try.prog.underlying 3 = some (.int .i64) by kernel_rfl) w0) (trodAll_cons_mk (Below.trod laidOut (by kernel_rfl) (of_decide_eq_true (by kernel_rfl)) k1 bel lt1) trodAll_mk0)), rfl, bel.frame _, fun h => by cases h⟩
set_option maxHeartbeats 4000000 in
theorem joined : joinedFacts Try.pinned.checked.prog 23 Try.f23 Rows.lookWholeSpec Rows.lookWholeRow = true := by
  unfold joinedFacts
  rw [Bool.and_assoc, Bool.and_assoc, Bool.and_assoc, Bool.and_assoc, Bool.and_assoc, Bool.and_assoc, Bool.and_assoc]
  refine Bool.and_eq_true_iff.2 ⟨?_, by as_aux_lemma => kernel_rfl⟩
  rw [Bool.and_assoc, Bool.and_assoc, Bool.and_assoc, Bool.and_assoc, Bool.and_assoc, Bool.and_assoc, Bool.and_assoc]
  refine Bool.and_eq_true_iff.2 ⟨?_, by as_aux_lemma => kernel_rfl⟩
  rw [Bool.and_assoc, Bool.and_assoc, Bool.and_assoc, Bool.and_assoc, Bool.and_assoc, Bool.and_assoc, Bool.and_assoc]
  refine Bool.and_eq_true_iff.2 ⟨?_, by as_aux_lemma => kernel_rfl⟩
  as_aux_lemma => kernel_rfl
theorem named : Try.pinned.checked.prog.funcNamed Rows.lookWholeRow.func = some 23 := by kernel_rfl
theorem inst : Func.isInstance Try.pinned.checked.prog Try.f23 Rows.lookWholeRow.origin Rows.lookWholeRow.targs := of_decide_eq_true (by kernel_rfl)
theorem wrap : Func.isWrapper Try.pinned.checked.prog Try.f23 Rows.lookWholeRow.wrapper Rows.lookWholeRow.mainSum := by
  unfold Func.isWrapper
  rw [if_neg (of_decide_eq_false (by kernel_rfl))]
  exact ⟨rfl, rfl⟩
theorem over : Rows.lookWholeRow.holds Try.pinned (OpenSpec.ofChange Rows.lookWholeSpec) :=
  OpenClaim.holds_of_wide 23 Try.f23 rfl rfl rfl rfl rfl rfl rfl ⟨rfl, rfl, rfl, rfl, rfl⟩ rfl rfl rfl rfl rfl named Try.func23 joined inst wrap (fun os started H enc _ => lifted os started H enc)
end Go.Proofs.Ytgbhpghgohggcaa.LookWholeDone
namespace Go.Proofs.Ytgbhpghgohggcaa
theorem lookWhole_holds : Rows.LookWholeSaid := LookWholeDone.over
#print axioms lookWhole_holds
end Go.Proofs.Ytgbhpghgohggcaa
