/- NetTells: Own, Send, Take and Twice tell what is on its way then. No condition beside the given statement's own. -/
import Derived.Test.YtgbhpghgohggcaaJNetTellsf
namespace Go.Proofs.Ytgbhpghgohggcaa.NetTellsDone
open Go.ChangeShapes Go.WideShapes Go.ChangeAt Go.RowKit
set_option maxRecDepth 100000 in
theorem lifted (os : Os) (started : os.Started) (H : Type) (enc : TypeId × Value → H) :
    ReturnsInHanded {} Try.checked os 14 .any (Rows.netTellsSpec.pre6 enc Try.prog Try.f14 Rows.netTellsRow.domain false) (Rows.netTellsSpec.post enc Try.prog Try.f14 false true false false) := by
  refine returnsInHanded_of_change_sized (C := Try.checked) own started (by kernel_rfl) Try.func14
    (ChangeSpec.witness6 (enc := enc) (C := Try.checked) false ⟨#[], #[.slice none 0 0, .slice none 0 0, .int .i64 0], []⟩ 8 (by kernel_rfl) (by kernel_rfl) (by kernel_rfl) (by kernel_rfl)) ?_
  intro W base args ds gs before hval0 hW hcnd hsz0 _
  have hval : ∀ (j : Nat) t v, Try.f14.params[j]? = some t → args[j]? = some v → Value.okWide Try.prog W .any base t v := hval0
  have hW' := hW
  obtain ⟨p, q, hA0, hV, rfl, hfz, hnd⟩ := hW
  have hA : DataW.TrodAll enc Try.prog W 0 (fun _ => true) true Try.f14.params.toList args.toList ds p := hA0
  rw [show Try.f14.params = #[79, 36, 3] by kernel_rfl] at hA hval
  obtain ⟨v0, vs0, d0, ds0, p0, q0, hargs, rfl, rfl, h0, r0⟩ := trodAll_cons hA
  obtain ⟨v1, vs1, d1, ds1, p1, q1, rfl, rfl, rfl, h1, r1⟩ := trodAll_cons r0
  obtain ⟨v2, vs2, d2, ds2, p2, q2, rfl, rfl, rfl, h2, r2⟩ := trodAll_cons r1
  obtain ⟨rfl, rfl, rfl⟩ := trodAll_nil r2
  obtain rfl : args = #[v0, v1, v2] := by cases args; simp_all
  obtain ⟨rfl, rfl⟩ := trodVars_none hV
  have hsz : (DataW.weightsEach Try.prog [79, 36, 3] [d0, d1, d2]).all (· ≤ reachBytes) = true := hsz0
  have k0 := h0
  have lt0 : ∀ x ∈ p0, x.block < W.heap.size := by obtain ⟨m, hm⟩ := k0; exact DataW.trod_lt m _ _ _ hm
  have rc0 := hval 0 _ v0 rfl rfl
  have k1 := h1
  have lt1 : ∀ x ∈ p1, x.block < W.heap.size := by obtain ⟨m, hm⟩ := k1; exact DataW.trod_lt m _ _ _ hm
  have rc1 := hval 1 _ v1 rfl rfl
  obtain ⟨l0, hl0⟩ := arg_sl (e := 69) reads_nets (by kernel_rfl) rc0 k0
  have hs0 := arg_size (e := 69) (by kernel_rfl) (show Try.prog.bytesOf 69 = 24 by kernel_rfl) hsz (j := 0) rfl rfl rc0 k0 hl0
  have hin0 := arg_inner (T := Ty.byte) (e := 69) (e2 := 5) (by kernel_rfl) (by kernel_rfl) (by kernel_rfl) (show Try.prog.bytesOf 5 = 1 by kernel_rfl) hsz (j := 0) rfl rfl rc0 k0 hl0
  obtain ⟨l1, hl1⟩ := arg_sl (e := 39) reads_mss (by kernel_rfl) rc1 k1
  have hs1 := arg_size (e := 39) (by kernel_rfl) (show Try.prog.bytesOf 39 = 48 by kernel_rfl) hsz (j := 1) rfl rfl rc1 k1 hl1
  obtain ⟨a2, rfl, rfl, rfl, w2⟩ := open_int (show Try.prog.underlying 3 = some (.int .i64) by kernel_rfl) (hval 2 _ v2 rfl rfl) h2
  clear hA0 hval0
  refine (netTells_walk W hl0 hs0 hin0 hl1 hs1 w2).mono fun e W' ⟨he, bel⟩ => ?_
  subst he
  exact ⟨_, rfl, _, _, _, [], _, [], hW', trodAll_mk1 (shut_bool (show Try.prog.underlying 4 = some .bool by kernel_rfl) _),
    (trodAll_cons_mk (Below.trod laidOut (by kernel_rfl) (of_decide_eq_true (by kernel_rfl)) k0 bel lt0) (trodAll_cons_mk (Below.trod laidOut (by kernel_rfl) (of_decide_eq_true (by kernel_rfl)) k1 bel lt1) (trodAll_cons_mk (shut_int (show Try.prog.underlying 3 = some (.int .i64) by kernel_rfl) w2) trodAll_mk0))), rfl, bel.frame _, fun h => by cases h⟩
set_option maxHeartbeats 4000000 in
theorem joined : joinedFacts Try.pinned.checked.prog 14 Try.f14 Rows.netTellsSpec Rows.netTellsRow = true := by
  unfold joinedFacts
  rw [Bool.and_assoc, Bool.and_assoc, Bool.and_assoc, Bool.and_assoc, Bool.and_assoc, Bool.and_assoc, Bool.and_assoc]
  refine Bool.and_eq_true_iff.2 ⟨?_, by as_aux_lemma => kernel_rfl⟩
  rw [Bool.and_assoc, Bool.and_assoc, Bool.and_assoc, Bool.and_assoc, Bool.and_assoc, Bool.and_assoc, Bool.and_assoc]
  refine Bool.and_eq_true_iff.2 ⟨?_, by as_aux_lemma => kernel_rfl⟩
  rw [Bool.and_assoc, Bool.and_assoc, Bool.and_assoc, Bool.and_assoc, Bool.and_assoc, Bool.and_assoc, Bool.and_assoc]
  refine Bool.and_eq_true_iff.2 ⟨?_, by as_aux_lemma => kernel_rfl⟩
  as_aux_lemma => kernel_rfl
theorem named : Try.pinned.checked.prog.funcNamed Rows.netTellsRow.func = some 14 := by kernel_rfl
theorem inst : Func.isInstance Try.pinned.checked.prog Try.f14 Rows.netTellsRow.origin Rows.netTellsRow.targs := of_decide_eq_true (by kernel_rfl)
theorem wrap : Func.isWrapper Try.pinned.checked.prog Try.f14 Rows.netTellsRow.wrapper Rows.netTellsRow.mainSum := by
  unfold Func.isWrapper
  rw [if_neg (of_decide_eq_false (by kernel_rfl))]
  exact ⟨rfl, rfl⟩
theorem over : Rows.netTellsRow.holds Try.pinned (OpenSpec.ofChange Rows.netTellsSpec) :=
  OpenClaim.holds_of_wide 14 Try.f14 rfl rfl rfl rfl rfl rfl rfl ⟨rfl, rfl, rfl, rfl, rfl⟩ rfl rfl rfl rfl rfl named Try.func14 joined inst wrap (fun os started H enc _ => lifted os started H enc)
end Go.Proofs.Ytgbhpghgohggcaa.NetTellsDone
namespace Go.Proofs.Ytgbhpghgohggcaa
theorem netTells_holds : Rows.NetTellsSaid := NetTellsDone.over
#print axioms netTells_holds
end Go.Proofs.Ytgbhpghgohggcaa
