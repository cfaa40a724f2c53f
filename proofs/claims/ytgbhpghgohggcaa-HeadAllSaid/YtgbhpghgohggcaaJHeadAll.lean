/- HeadAll: only when all said yes: a head decides a deed only when each of its houses said yes to it; and what is decided stays so. No condition beside the given statement's own. -/
import Derived.Test.YtgbhpghgohggcaaJHeadAlla
namespace Go.Proofs.Ytgbhpghgohggcaa.HeadAllDone
open Go.ChangeShapes Go.WideShapes Go.ChangeAt Go.RowKit
set_option maxRecDepth 100000 in
theorem lifted (os : Os) (started : os.Started) (H : Type) (enc : TypeId × Value → H) :
    ReturnsInHanded {} Try.checked os 26 .any (Rows.headAllSpec.pre6 enc Try.prog Try.f26 Rows.headAllRow.domain false) (Rows.headAllSpec.post enc Try.prog Try.f26 false true false false) := by
  refine returnsInHanded_of_change_sized (C := Try.checked) own started (by kernel_rfl) Try.func26
    (ChangeSpec.witness6 (enc := enc) (C := Try.checked) false ⟨#[], #[.int .i64 0, .slice none 0 0, .slice none 0 0, .slice none 0 0], []⟩ 8 (by kernel_rfl) (by kernel_rfl) (by kernel_rfl) (by kernel_rfl)) ?_
  intro W base args ds gs before hval0 hW hcnd hsz0 _
  have hval : ∀ (j : Nat) t v, Try.f26.params[j]? = some t → args[j]? = some v → Value.okWide Try.prog W .any base t v := hval0
  have hW' := hW
  obtain ⟨p, q, hA0, hV, rfl, hfz, hnd⟩ := hW
  have hA : DataW.TrodAll enc Try.prog W 0 (fun _ => true) true Try.f26.params.toList args.toList ds p := hA0
  rw [show Try.f26.params = #[3, 90, 23, 36] by kernel_rfl] at hA hval
  obtain ⟨v0, vs0, d0, ds0, p0, q0, hargs, rfl, rfl, h0, r0⟩ := trodAll_cons hA
  obtain ⟨v1, vs1, d1, ds1, p1, q1, rfl, rfl, rfl, h1, r1⟩ := trodAll_cons r0
  obtain ⟨v2, vs2, d2, ds2, p2, q2, rfl, rfl, rfl, h2, r2⟩ := trodAll_cons r1
  obtain ⟨v3, vs3, d3, ds3, p3, q3, rfl, rfl, rfl, h3, r3⟩ := trodAll_cons r2
  obtain ⟨rfl, rfl, rfl⟩ := trodAll_nil r3
  obtain rfl : args = #[v0, v1, v2, v3] := by cases args; simp_all
  obtain ⟨rfl, rfl⟩ := trodVars_none hV
  have hsz : (DataW.weightsEach Try.prog [3, 90, 23, 36] [d0, d1, d2, d3]).all (· ≤ reachBytes) = true := hsz0
  have k1 := h1
  have lt1 : ∀ x ∈ p1, x.block < W.heap.size := by obtain ⟨m, hm⟩ := k1; exact DataW.trod_lt m _ _ _ hm
  have rc1 := hval 1 _ v1 rfl rfl
  have k2 := h2
  have lt2 : ∀ x ∈ p2, x.block < W.heap.size := by obtain ⟨m, hm⟩ := k2; exact DataW.trod_lt m _ _ _ hm
  have rc2 := hval 2 _ v2 rfl rfl
  have k3 := h3
  have lt3 : ∀ x ∈ p3, x.block < W.heap.size := by obtain ⟨m, hm⟩ := k3; exact DataW.trod_lt m _ _ _ hm
  have rc3 := hval 3 _ v3 rfl rfl
  obtain ⟨a0, rfl, rfl, rfl, w0⟩ := open_int (show Try.prog.underlying 3 = some (.int .i64) by kernel_rfl) (hval 0 _ v0 rfl rfl) h0
  obtain ⟨l1, hl1⟩ := arg_sl (e := 164) reads_sts (by kernel_rfl) rc1 k1
  have hs1 := arg_size (e := 164) (by kernel_rfl) (show Try.prog.bytesOf 164 = 40 by kernel_rfl) hsz (j := 1) rfl rfl rc1 k1 hl1
  obtain ⟨l2, hl2⟩ := arg_sl (e := 32) reads_pts (by kernel_rfl) rc2 k2
  have hs2 := arg_size (e := 32) (by kernel_rfl) (show Try.prog.bytesOf 32 = 24 by kernel_rfl) hsz (j := 2) rfl rfl rc2 k2 hl2
  obtain ⟨l3, hl3⟩ := arg_sl (e := 39) reads_mss (by kernel_rfl) rc3 k3
  have hs3 := arg_size (e := 39) (by kernel_rfl) (show Try.prog.bytesOf 39 = 48 by kernel_rfl) hsz (j := 3) rfl rfl rc3 k3 hl3
  clear hA0 hval0
  refine (headAll_walk W w0 hl1 hs1 hl2 hs2 hl3 hs3).mono fun e W' ⟨he, bel⟩ => ?_
  subst he
  exact ⟨_, rfl, _, _, _, [], _, [], hW', trodAll_mk1 (shut_bool (show Try.prog.underlying 4 = some .bool by kernel_rfl) _),
    (trodAll_cons_mk (shut_int (show Try.prog.underlying 3 = some (.int .i64) by kernel_rfl) w0) (trodAll_cons_mk (Below.trod laidOut (by kernel_rfl) (of_decide_eq_true (by kernel_rfl)) k1 bel lt1) (trodAll_cons_mk (Below.trod laidOut (by kernel_rfl) (of_decide_eq_true (by kernel_rfl)) k2 bel lt2) (trodAll_cons_mk (Below.trod laidOut (by kernel_rfl) (of_decide_eq_true (by kernel_rfl)) k3 bel lt3) trodAll_mk0)))), rfl, bel.frame _, fun h => by cases h⟩
set_option maxHeartbeats 4000000 in
theorem joined : joinedFacts Try.pinned.checked.prog 26 Try.f26 Rows.headAllSpec Rows.headAllRow = true := by
  unfold joinedFacts
  rw [Bool.and_assoc, Bool.and_assoc, Bool.and_assoc, Bool.and_assoc, Bool.and_assoc, Bool.and_assoc, Bool.and_assoc]
  refine Bool.and_eq_true_iff.2 ⟨?_, by as_aux_lemma => kernel_rfl⟩
  rw [Bool.and_assoc, Bool.and_assoc, Bool.and_assoc, Bool.and_assoc, Bool.and_assoc, Bool.and_assoc, Bool.and_assoc]
  refine Bool.and_eq_true_iff.2 ⟨?_, by as_aux_lemma => kernel_rfl⟩
  rw [Bool.and_assoc, Bool.and_assoc, Bool.and_assoc, Bool.and_assoc, Bool.and_assoc, Bool.and_assoc, Bool.and_assoc]
  refine Bool.and_eq_true_iff.2 ⟨?_, by as_aux_lemma => kernel_rfl⟩
  as_aux_lemma => kernel_rfl
theorem named : Try.pinned.checked.prog.funcNamed Rows.headAllRow.func = some 26 := by kernel_rfl
theorem inst : Func.isInstance Try.pinned.checked.prog Try.f26 Rows.headAllRow.origin Rows.headAllRow.targs := of_decide_eq_true (by kernel_rfl)
theorem wrap : Func.isWrapper Try.pinned.checked.prog Try.f26 Rows.headAllRow.wrapper Rows.headAllRow.mainSum := by
  unfold Func.isWrapper
  rw [if_neg (of_decide_eq_false (by kernel_rfl))]
  exact ⟨rfl, rfl⟩
theorem over : Rows.headAllRow.holds Try.pinned (OpenSpec.ofChange Rows.headAllSpec) :=
  OpenClaim.holds_of_wide 26 Try.f26 rfl rfl rfl rfl rfl rfl rfl ⟨rfl, rfl, rfl, rfl, rfl⟩ rfl rfl rfl rfl rfl named Try.func26 joined inst wrap (fun os started H enc _ => lifted os started H enc)
end Go.Proofs.Ytgbhpghgohggcaa.HeadAllDone
namespace Go.Proofs.Ytgbhpghgohggcaa
theorem headAll_holds : Rows.HeadAllSaid := HeadAllDone.over
#print axioms headAll_holds
end Go.Proofs.Ytgbhpghgohggcaa
