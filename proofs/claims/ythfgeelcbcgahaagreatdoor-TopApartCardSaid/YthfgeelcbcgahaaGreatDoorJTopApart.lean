/- TopApart: deeds each at a key of its own at two houses are all done. No condition beside the given statement's own. -/
import Derived.JoinedCond
import Derived.Test.YthfgeelcbcgahaaGreatDoorJTopAparta
namespace Go.Proofs.YthfgeelcbcgahaaGreatDoor.TopApartDone
open Go.ChangeShapes Go.WideShapes Go.ChangeAt Go.RowKit
theorem reads (os : Os) {H : Type} (enc : TypeId × Value → H) : ∃ places, DataW.whole enc Tryz.prog ((World.laidAll Tryz.prog os laidList).forCall (fun _ _ => 0) ⟨#[], #[.slice none 0 0, .slice none 0 0], []⟩).memory Tryz.f6.params.toList Rows.topApartSpec.vars false (#[.slice none 0 0, .slice none 0 0] : Array Value).toList 8 = some ([.nil, .nil], [], places) :=
  ⟨[], by kernel_rfl⟩
set_option maxRecDepth 100000 in
theorem lifted (os : Os) (started : os.Started) (H : Type) (enc : TypeId × Value → H) (F : Stop.Interp) :
    ReturnsInHanded {} Tryz.checked os 6 .any ((OpenSpec.ofChange Rows.topApartSpec).preRow enc Tryz.prog Tryz.f6 Rows.topApartRow.domain false Rows.topApartRow.laid) (((OpenSpec.ofChange Rows.topApartSpec).at F).post enc Tryz.prog Tryz.f6 false true false false) := by
  obtain ⟨places, hx⟩ := reads os enc
  refine returnsInHanded_of_row (C := Tryz.checked) (s := (OpenSpec.ofChange Rows.topApartSpec)) own started (by kernel_rfl) Tryz.func6
    (card_witness (enc := enc) (os := os) (f := 6) (fn := Tryz.f6) (s := (OpenSpec.ofChange Rows.topApartSpec)) (laid := laidList) #[.slice none 0 0, .slice none 0 0] (by kernel_rfl) (by kernel_rfl) (by kernel_rfl)
      (OpenSpec.preRow_of_cond 8 hx (by kernel_rfl) (fun k hk => by cases hk) (by kernel_rfl) (laid_met os _))) ?_
  intro W base args ds gs before hval0 hW _ hcond hsz0 hL0 hsh _
  have hL : laidMetH Tryz.prog laidList W := hL0
  have hval : ∀ (j : Nat) t v, Tryz.f6.params[j]? = some t → args[j]? = some v → Value.okWide Tryz.prog W .any base t v := hval0
  have hW' := hW
  obtain ⟨p, q, hA0, hV, rfl, hfz, hnd⟩ := hW
  have hA : DataW.TrodAll enc Tryz.prog W 0 (fun _ => true) true Tryz.f6.params.toList args.toList ds p := hA0
  rw [show Tryz.f6.params = #[47, 23] by kernel_rfl] at hA hval
  obtain ⟨v0, vs0, d0, ds0, p0, q0, hargs, rfl, rfl, h0, r0⟩ := trodAll_cons hA
  obtain ⟨v1, vs1, d1, ds1, p1, q1, rfl, rfl, rfl, h1, r1⟩ := trodAll_cons r0
  obtain ⟨rfl, rfl, rfl⟩ := trodAll_nil r1
  obtain rfl : args = #[v0, v1] := by cases args; simp_all
  obtain ⟨rfl, rfl⟩ := trodVars_none hV
  have hsz : (DataW.weightsEach Tryz.prog [47, 23] [d0, d1]).all (· ≤ reachBytes) = true := hsz0
  have k0 := h0
  have lt0 : ∀ x ∈ p0, x.block < W.heap.size := by obtain ⟨m, hm⟩ := k0; exact DataW.trod_lt m _ _ _ hm
  have rc0 := hval 0 _ v0 rfl rfl
  have k1 := h1
  have lt1 : ∀ x ∈ p1, x.block < W.heap.size := by obtain ⟨m, hm⟩ := k1; exact DataW.trod_lt m _ _ _ hm
  have rc1 := hval 1 _ v1 rfl rfl
  obtain ⟨l0, hl0⟩ := arg_sl (e := 3) reads_ints (by kernel_rfl) rc0 k0
  have hs0 := arg_size (e := 3) (by kernel_rfl) (show Tryz.prog.bytesOf 3 = 8 by kernel_rfl) hsz (j := 0) rfl rfl rc0 k0 hl0
  obtain ⟨l1, hl1⟩ := arg_sl (e := 28) reads_sts (by kernel_rfl) rc1 k1
  have hs1 := arg_size (e := 28) (by kernel_rfl) (show Tryz.prog.bytesOf 28 = 40 by kernel_rfl) hsz (j := 1) rfl rfl rc1 k1 hl1
  clear hA0 hval0
  refine (topApart_walk W (vars_of hL hsh) hl0 hs0 hl1 hs1).mono fun e W' ⟨he, bel⟩ => ?_
  subst he
  exact ⟨_, rfl, _, _, _, [], _, [], hW', trodAll_mk1 (shut_bool (show Tryz.prog.underlying 4 = some .bool by kernel_rfl) _),
    (trodAll_cons_mk (Below.trod laidOut (by kernel_rfl) (of_decide_eq_true (by kernel_rfl)) k0 bel lt0) (trodAll_cons_mk (Below.trod laidOut (by kernel_rfl) (of_decide_eq_true (by kernel_rfl)) k1 bel lt1) trodAll_mk0)), rfl, bel.frame _, fun h => by cases h⟩
set_option maxHeartbeats 4000000 in
theorem joined : joinedFacts Tryz.pinned.checked.prog 6 Tryz.f6 (OpenSpec.ofChange Rows.topApartSpec).bare Rows.topApartRow = true := by
  unfold joinedFacts
  rw [Bool.and_assoc, Bool.and_assoc, Bool.and_assoc, Bool.and_assoc, Bool.and_assoc, Bool.and_assoc, Bool.and_assoc]
  refine Bool.and_eq_true_iff.2 ⟨?_, by as_aux_lemma => kernel_rfl⟩
  rw [Bool.and_assoc, Bool.and_assoc, Bool.and_assoc, Bool.and_assoc, Bool.and_assoc, Bool.and_assoc, Bool.and_assoc]
  refine Bool.and_eq_true_iff.2 ⟨?_, by as_aux_lemma => kernel_rfl⟩
  rw [Bool.and_assoc, Bool.and_assoc, Bool.and_assoc, Bool.and_assoc, Bool.and_assoc, Bool.and_assoc, Bool.and_assoc]
  refine Bool.and_eq_true_iff.2 ⟨?_, by as_aux_lemma => kernel_rfl⟩
  as_aux_lemma => kernel_rfl
theorem named : Tryz.pinned.checked.prog.funcNamed Rows.topApartRow.func = some 6 := by kernel_rfl
theorem inst : Func.isInstance Tryz.pinned.checked.prog Tryz.f6 Rows.topApartRow.origin Rows.topApartRow.targs := of_decide_eq_true (by kernel_rfl)
theorem wrap : Func.isWrapper Tryz.pinned.checked.prog Tryz.f6 Rows.topApartRow.wrapper Rows.topApartRow.mainSum := by
  unfold Func.isWrapper
  rw [if_neg (of_decide_eq_false (by kernel_rfl))]
  exact ⟨rfl, rfl⟩
theorem over : Rows.topApartRow.holds Tryz.pinned (OpenSpec.ofChange Rows.topApartSpec) :=
  OpenClaim.holds_of_cond 6 Tryz.f6 rfl rfl rfl rfl rfl rfl rfl ⟨rfl, rfl, rfl, rfl, rfl⟩ rfl rfl rfl rfl rfl named Tryz.func6 joined inst wrap (fun os started H enc _ F => by rw [OpenClaim.pre_eq_preRow]; exact lifted os started H enc F)
/-- No parameter wants a stand-in. -/
theorem plain (f : FuncId) (fn : Func) (hf : Tryz.pinned.checked.prog.funcNamed "allornone/antop.TopApart" = some f) (hfn : Tryz.pinned.checked.prog.funcs[f]? = some fn) :
    true = Tryz.pinned.checked.prog.looks [] ∧ ∀ (j : Nat) t, fn.params[j]? = some t → Tryz.pinned.checked.prog.wantsStandIn t = false := by
  obtain rfl : f = 6 := Option.some.inj ((show Tryz.prog.funcNamed "allornone/antop.TopApart" = some 6 by kernel_rfl).symm.trans hf) |>.symm
  obtain rfl : fn = Tryz.f6 := (Option.some.inj (Tryz.func6.symm.trans hfn)).symm
  refine ⟨by kernel_rfl, fun j t ht => ?_⟩
  rw [show Tryz.f6.params = #[47, 23] by kernel_rfl] at ht
  have hm : t ∈ [47, 23] := by simpa using Array.mem_of_getElem? ht
  have hall : ([47, 23].all fun u => !Tryz.prog.wantsStandIn u) = true := by kernel_rfl
  exact (show Tryz.prog.wantsStandIn t = false by simpa using List.all_eq_true.1 hall t hm)
end Go.Proofs.YthfgeelcbcgahaaGreatDoor.TopApartDone
namespace Go.Proofs.YthfgeelcbcgahaaGreatDoor
theorem topApart_holds : Rows.TopApartCardSaid :=
  Claim7.holds_tied_plain_at _ [] _ _ _ _ TopApartDone.over (fun _ h => by cases h) (by kernel_rfl) (fun _ h => by cases h) topApart_row_tie rfl ⟨rfl, rfl⟩ (by kernel_rfl) rfl TopApartDone.plain (by kernel_rfl)
#print axioms topApart_holds
end Go.Proofs.YthfgeelcbcgahaaGreatDoor
