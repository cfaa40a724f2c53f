/- TextTurnsUpto: right parts come back from their text; a text that is read is theirs. (Where what is read is of bulk at most 1048576.) No condition beside the given statement's own. -/
import Derived.JoinedCond
import Derived.Test.YthfgeelcbcgahaaDoorJT1a
namespace Go.Proofs.YthfgeelcbcgahaaDoor.TextTurnsDone
open Go.ChangeShapes Go.WideShapes Go.ChangeAt Go.RowKit
theorem reads (os : Os) {H : Type} (enc : TypeId × Value → H) : ∃ places, DataW.whole enc Tryd.prog ((World.laidAll Tryd.prog os laidList).forCall (fun _ _ => 0) ⟨#[], #[.string ByteArray.empty, .slice none 0 0], []⟩).memory Tryd.f5.params.toList Rows.textTurnsSpec.vars false (#[.string ByteArray.empty, .slice none 0 0] : Array Value).toList 8 = some ([.lit (.string []), .nil], [], places) :=
  ⟨[], by kernel_rfl⟩
set_option maxRecDepth 100000 in
theorem lifted (os : Os) (started : os.Started) (H : Type) (enc : TypeId × Value → H) (F : Stop.Interp) :
    ReturnsInHanded {} Tryd.checked os 5 .any ((Rows.OpenSpec.upto Rows.textTurnsSpec).preRow enc Tryd.prog Tryd.f5 Rows.textTurnsUptoRow.domain false Rows.textTurnsUptoRow.laid) (((Rows.OpenSpec.upto Rows.textTurnsSpec).at F).post enc Tryd.prog Tryd.f5 false true false false) := by
  obtain ⟨places, hx⟩ := reads os enc
  refine returnsInHanded_of_row (C := Tryd.checked) (s := (Rows.OpenSpec.upto Rows.textTurnsSpec)) own started (by kernel_rfl) Tryd.func5
    (card_witness (enc := enc) (os := os) (f := 5) (fn := Tryd.f5) (s := (Rows.OpenSpec.upto Rows.textTurnsSpec)) (laid := laidList) #[.string ByteArray.empty, .slice none 0 0] (by kernel_rfl) (by kernel_rfl) (by kernel_rfl)
      (OpenSpec.preRow_of_cond 8 hx (by kernel_rfl) (fun k hk => by cases hk; kernel_rfl) (by kernel_rfl) (laid_met os _))) ?_
  intro W base args ds gs before hval0 hW _ hcond hsz0 hL0 hsh _
  have hL : laidMetH Tryd.prog laidList W := hL0
  have hval : ∀ (j : Nat) t v, Tryd.f5.params[j]? = some t → args[j]? = some v → Value.okWide Tryd.prog W .any base t v := hval0
  have hW' := hW
  obtain ⟨p, q, hA0, hV, rfl, hfz, hnd⟩ := hW
  have hA : DataW.TrodAll enc Tryd.prog W 0 (fun _ => true) true Tryd.f5.params.toList args.toList ds p := hA0
  rw [show Tryd.f5.params = #[9, 22] by kernel_rfl] at hA hval
  obtain ⟨v0, vs0, d0, ds0, p0, q0, hargs, rfl, rfl, h0, r0⟩ := trodAll_cons hA
  obtain ⟨v1, vs1, d1, ds1, p1, q1, rfl, rfl, rfl, h1, r1⟩ := trodAll_cons r0
  obtain ⟨rfl, rfl, rfl⟩ := trodAll_nil r1
  obtain rfl : args = #[v0, v1] := by cases args; simp_all
  obtain ⟨rfl, rfl⟩ := trodVars_none hV
  have hsz : (DataW.weightsEach Tryd.prog [9, 22] [d0, d1]).all (· ≤ reachBytes) = true := hsz0
  have k1 := h1
  have lt1 : ∀ x ∈ p1, x.block < W.heap.size := by obtain ⟨m, hm⟩ := k1; exact DataW.trod_lt m _ _ _ hm
  have rc1 := hval 1 _ v1 rfl rfl
  obtain ⟨s0, rfl, rfl, rfl, w0⟩ := Go.ChangeMaps.open_string (show Tryd.prog.underlying 9 = some .string by kernel_rfl) (hval 0 _ v0 rfl rfl) h0
  have b0 : s0.size ≤ 1048576 := by
    have hb := of_decide_eq_true (hcond _ rfl)
    simp only [List.cons_append, List.nil_append, Rows.uptoBulkAll, Rows.uptoBulk] at hb
    rw [Lib.size_eq]
    omega
  obtain ⟨l1, hl1⟩ := arg_sl (e := 34) reads_pts (by kernel_rfl) rc1 k1
  have hs1 := arg_size (e := 34) (by kernel_rfl) (show Tryd.prog.bytesOf 34 = 24 by kernel_rfl) hsz (j := 1) rfl rfl rc1 k1 hl1
  clear hA0 hval0
  refine (textTurns_law W (vars_of hL hsh) s0 b0 hl1 hs1).mono fun e W' ⟨he, bel⟩ => ?_
  subst he
  exact ⟨_, rfl, _, _, _, [], _, [], hW', trodAll_mk1 (shut_bool (show Tryd.prog.underlying 4 = some .bool by kernel_rfl) _),
    (trodAll_cons_mk (Go.ChangeMaps.shut_string (show Tryd.prog.underlying 9 = some .string by kernel_rfl) w0) (trodAll_cons_mk (Below.trod laidOut (by kernel_rfl) (of_decide_eq_true (by kernel_rfl)) k1 bel lt1) trodAll_mk0)), rfl, bel.frame _, fun h => by cases h⟩
set_option maxHeartbeats 4000000 in
theorem joined : joinedFacts Tryd.pinned.checked.prog 5 Tryd.f5 (Rows.OpenSpec.upto Rows.textTurnsSpec).bare Rows.textTurnsUptoRow = true := by
  unfold joinedFacts
  rw [Bool.and_assoc, Bool.and_assoc, Bool.and_assoc, Bool.and_assoc, Bool.and_assoc, Bool.and_assoc, Bool.and_assoc]
  refine Bool.and_eq_true_iff.2 ⟨?_, by as_aux_lemma => kernel_rfl⟩
  rw [Bool.and_assoc, Bool.and_assoc, Bool.and_assoc, Bool.and_assoc, Bool.and_assoc, Bool.and_assoc, Bool.and_assoc]
  refine Bool.and_eq_true_iff.2 ⟨?_, by as_aux_lemma => kernel_rfl⟩
  rw [Bool.and_assoc, Bool.and_assoc, Bool.and_assoc, Bool.and_assoc, Bool.and_assoc, Bool.and_assoc, Bool.and_assoc]
  refine Bool.and_eq_true_iff.2 ⟨?_, by as_aux_lemma => kernel_rfl⟩
  as_aux_lemma => kernel_rfl
theorem named : Tryd.pinned.checked.prog.funcNamed Rows.textTurnsUptoRow.func = some 5 := by kernel_rfl
theorem inst : Func.isInstance Tryd.pinned.checked.prog Tryd.f5 Rows.textTurnsUptoRow.origin Rows.textTurnsUptoRow.targs := of_decide_eq_true (by kernel_rfl)
theorem wrap : Func.isWrapper Tryd.pinned.checked.prog Tryd.f5 Rows.textTurnsUptoRow.wrapper Rows.textTurnsUptoRow.mainSum := by
  unfold Func.isWrapper
  rw [if_neg (of_decide_eq_false (by kernel_rfl))]
  exact ⟨rfl, rfl⟩
theorem over : Rows.textTurnsUptoRow.holds Tryd.pinned (Rows.OpenSpec.upto Rows.textTurnsSpec) :=
  OpenClaim.holds_of_cond 5 Tryd.f5 rfl rfl rfl rfl rfl rfl rfl ⟨rfl, rfl, rfl, rfl, rfl⟩ rfl rfl rfl rfl rfl named Tryd.func5 joined inst wrap (fun os started H enc _ F => by rw [OpenClaim.pre_eq_preRow]; exact lifted os started H enc F)
/-- No parameter wants a stand-in. -/
theorem plain (f : FuncId) (fn : Func) (hf : Tryd.pinned.checked.prog.funcNamed "allornone/anlaw3.TextTurns" = some f) (hfn : Tryd.pinned.checked.prog.funcs[f]? = some fn) :
    true = Tryd.pinned.checked.prog.looks [] ∧ ∀ (j : Nat) t, fn.params[j]? = some t → Tryd.pinned.checked.prog.wantsStandIn t = false := by
  obtain rfl : f = 5 := Option.some.inj ((show Tryd.prog.funcNamed "allornone/anlaw3.TextTurns" = some 5 by kernel_rfl).symm.trans hf) |>.symm
  obtain rfl : fn = Tryd.f5 := (Option.some.inj (Tryd.func5.symm.trans hfn)).symm
  refine ⟨by kernel_rfl, fun j t ht => ?_⟩
  rw [show Tryd.f5.params = #[9, 22] by kernel_rfl] at ht
  have hm : t ∈ [9, 22] := by simpa using Array.mem_of_getElem? ht
  have hall : ([9, 22].all fun u => !Tryd.prog.wantsStandIn u) = true := by kernel_rfl
  exact (show Tryd.prog.wantsStandIn t = false by simpa using List.all_eq_true.1 hall t hm)
end Go.Proofs.YthfgeelcbcgahaaDoor.TextTurnsDone
namespace Go.Proofs.YthfgeelcbcgahaaDoor
theorem textTurnsUpto_holds : Rows.TextTurnsUptoCardSaid :=
  Claim7.holds_tied_plain_at _ [] _ _ _ _ TextTurnsDone.over (fun _ h => by cases h) (by kernel_rfl) (fun _ h => by cases h) textTurnsUpto_row_tie rfl ⟨rfl, rfl⟩ (by kernel_rfl) rfl TextTurnsDone.plain (by kernel_rfl)
#print axioms textTurnsUpto_holds
end Go.Proofs.YthfgeelcbcgahaaDoor
