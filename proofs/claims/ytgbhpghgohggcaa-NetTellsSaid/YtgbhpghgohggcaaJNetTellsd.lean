/- The parts that NetTells is proved of, joined: R6, R7, R8, B4, R9, R10, Lit, A4, A2, K17, Z3, Z4, A9, K19, Z7, Z5, Z6, M5, S6, M6, Dfn2, M7. No condition beside those that each theorem names. -/
import Derived.Deep.Cut
import Derived.IntWalk
import Derived.Test.YtgbhpghgohggcaaJNetTellsc
/- Walks: DoAll of the document's answer. -/
namespace Go.Proofs.Ytgbhpghgohggcaa
open Go.RowKit
theorem put_step {P : List Pt} {S : List Sm} {k : Nat} (h : k < S.length) : ((putGo P 0 S).take k ++ S.drop k).set k (doP S[k] (ofL P k)) = (putGo P 0 S).take (k + 1) ++ S.drop (k + 1) := by
  have hl := putGo_len (P := P) S 0
  have hg : (putGo P 0 S)[k]? = some (doP S[k] (ofL P k)) := by rw [putGo_get, List.getElem?_eq_getElem h]; simp
  have hg2 : (putGo P 0 S)[k]'(by omega) = doP S[k] (ofL P k) := by rw [List.getElem?_eq_getElem (by omega)] at hg; exact Option.some.inj hg
  have ht : ((putGo P 0 S).take k).length = k := by rw [List.length_take]; omega
  rw [List.set_append_right _ _ (by omega), ht, Nat.sub_self, List.drop_eq_getElem_cons h, List.set_cons_zero, List.take_succ_eq_append_getElem (by omega), hg2]
  simp
theorem err_step {P : List Pt} {S : List Sm} {k : Nat} (h : k < S.length) : errGo P k (S.drop k) = if fitsE S[k].get (ofL P k) = 0 then errGo P (k + 1) (S.drop (k + 1)) else fitsE S[k].get (ofL P k) := by
  rw [List.drop_eq_getElem_cons h, errGo]
set_option maxRecDepth 100000 in
set_option maxHeartbeats 2000000 in
theorem ref_doAll {v vp : Value} {S : List Sm} {P : List Pt} (w : World) (hv : Sms w.cell? v S) (hp : Pts w.cell? vp P) (hk : KeysOk P) (hm : P.length * 24 ≤ 140737488355328) (hms : S.length * 32 ≤ 140737488355328) :
    Calls Try.prog 93 #[v, vp] w fun e w' => ∃ v', e = .returned (.tuple #[v', .int .i64 (doAllE S P).2]) ∧ Sms w'.cell? v' (doAllE S P).1 ∧ Grow w w' ∧ (OwnC Ty.sm (fun _ => none) w' w.heap.size 25 v' (doAllE S P).1 ∨ (v' = v ∧ (doAllE S P).1 = S)) := by
  have HOF := Lib.hid (fun (n : Int) (W : World) (hW : Grow w W) => ref_of (n := n) W (hp.mono hW.sub) hm)
  have HSRC := Lib.hid (Src.of_sl (T := Ty.sm) (by decide) hv)
  have HVR := Lib.hid hv
  have hok := Pts.ok hp
  have HOKA := Lib.hid (fun (n : Int) => (show PtsOk (ofL P n) from fun p hp => hok p ((List.mem_filter.1 hp).1)))
  have HKA := Lib.hid (fun (n : Int) => (show KeysOk (ofL P n) from fun p hp => hk p ((List.mem_filter.1 hp).1)))
  obtain ⟨ap, cp, rfl, -⟩ := hp
  obtain ⟨a, cap, rfl, h1, h2, -, hel⟩ := hv
  unfold maxLen at h2
  clear hk hm hok
  go_enter Try.func93, Try.ntmps93
  go_wp2_with (first | (at_builtin; refine wpList_appc (c := w.cell?) (base := w.heap.size) (l := []) (m := S) ei_sm rfl one_Tsm (by decide) rfl (.tmp 9) (.tmp 10) rfl rfl (OwnC.made0 Ty.sm w.cell? _ _ _ ?c1 ?c1') rfl (HSRC.out.grow ?c2) ?c3 ?c4 ?_))
  case c1 => exact Nat.le_refl _
  case c1' => rfl
  case c2 => exact (Grow.refl w).alloc _
  case c3 => simp; omega
  case c4 => simp
  intro a1 c1 w1 hown1 hg1 hb1
  try simp only [List.length_nil, Nat.zero_add, List.nil_append] at hown1 hb1 ⊢
  have HG1 := Lib.hid (grow_by (w0 := w) ((Grow.refl w).alloc _) hg1 (own_at (Nat.le_refl _)))
  have HO1 := Lib.hid hown1
  have hmx : S.length ≤ c1 ∧ c1 ≤ 9223372036854775807 := by
    obtain ⟨a0, c0, he, h0, h01, -⟩ := hown1.sl (by decide) HG1.out.sub
    simp only [Value.slice.injEq] at he
    unfold maxLen at h01
    omega
  clear hown1 hg1 hb1
  go_wp2
  go_loopw [4, 5, 7, 14] (fun _ _ _ i wr => ∃ k : Nat, k ≤ S.length ∧ i = .int .i64 k ∧ Grow w wr ∧ errGo P 0 S = errGo P k (S.drop k) ∧ OwnC Ty.sm w.cell? wr w.heap.size 25 (.slice a1 S.length c1) ((putGo P 0 S).take k ++ S.drop k)) (fun _ _ _ i _ => S.length - (intOf i).toNat)
  case atStart => exact ⟨0, by omega, rfl, HG1.out, rfl, by simpa using HO1.out⟩
  case round =>
    obtain ⟨k, hk', rfl, hb, hE, hown⟩ := hrel
    by_cases hlt : k < S.length
    · obtain ⟨b, o, rfl, c0, c1', c2, c3, i0, i1, i2, i3⟩ := smAt hel k hlt
      replace c0 := hb.sub _ _ c0
      replace c1' := hb.sub _ _ c1'
      replace c2 := hb.sub _ _ c2
      replace c3 := hb.sub _ _ c3
      clear hel
      have hll : ((putGo P 0 S).take k ++ S.drop k).length = S.length := by rw [List.length_append, List.length_take, List.length_drop, putGo_len]; omega
      have hown2 := hown
      rw [← hll] at hown2
      obtain ⟨g, cs0, rfl, -, -⟩ := hown2.get (by decide) 0 (by omega)
      have HGB := Lib.hid ((hown.lt g rfl).1)
      have HOW := Lib.hid hown2
      have HLO := Lib.hid hll
      have HON := Lib.hid (put_step (P := P) hlt)
      have hes := err_step (P := P) hlt
      have HSK : Hid (SmOk (doP S[k] (ofL P k))) := Lib.hid (SmOk.doP ⟨i0, i1, i2, i3⟩ _)
      have HOK := Lib.hid (HOKA.out (k : Int))
      have HKO := Lib.hid (HKA.out (k : Int))
      clear hown hown2 hll i0 i1 i2 i3
      rw [hes] at hE
      clear hes
      generalize S[k] = s at *
      rw [show s.get = S4 s.a s.b s.c s.d from rfl] at hE
      have HS : Hid (∀ W, Grow wr W → W.cell? ⟨b, o + k * 4, none⟩ = some (.int .i64 s.a) ∧ W.cell? ⟨b, o + k * 4 + 1, none⟩ = some (.int .i64 s.b) ∧ W.cell? ⟨b, o + k * 4 + 2, none⟩ = some (.int .i64 s.c) ∧ W.cell? ⟨b, o + k * 4 + 3, none⟩ = some (.int .i64 s.d)) := fun W hW => ⟨hW.sub _ _ c0, hW.sub _ _ c1', hW.sub _ _ c2, hW.sub _ _ c3⟩
      clear c0 c1' c2 c3
      by_cases hf : fitsE (S4 s.a s.b s.c s.d) (ofL P k) = 0
      · have HEN := Lib.hid (show errGo P 0 S = errGo P (k + 1) (S.drop (k + 1)) by rw [hE, if_pos hf])
        have hbf : (fitsE (S4 s.a s.b s.c s.d) (ofL P k) != 0) = false := by simp [hf]
        clear hE hf
        go_wp2
        refine but_start (fun w' => w'.cell? ⟨b, o + k * 4, none⟩ = some (.int .i64 s.a) ∧ w'.cell? ⟨b, o + k * 4 + 1, none⟩ = some (.int .i64 s.b) ∧ w'.cell? ⟨b, o + k * 4 + 2, none⟩ = some (.int .i64 s.c) ∧ w'.cell? ⟨b, o + k * 4 + 3, none⟩ = some (.int .i64 s.d)) 8 (by kernel_rfl) ?_
        obtain ⟨wd, hWd⟩ : ∃ x : World, x = wr.drew := ⟨_, rfl⟩
        rw [← hWd]
        have GD : Grow wr wd := by rw [hWd]; exact (Grow.refl _).drew
        have zD : wr.heap.size = wd.heap.size := by rw [hWd]; rfl
        have ZD := Lib.hid zD
        clear hWd zD
        refine but_take (i := 0) (v := ?_) 11 rfl (by kernel_rfl) (by kernel_rfl) (by kernel_rfl) (by kernel_rfl) (by kernel_rfl) (fun _ _ _ h => h) (HS.out _ GD) (Or.inl ⟨by rfl, ?_⟩) ?_
        rotate_left
        · (intro w' hSw; (try dsimp only at hSw); obtain ⟨hs0, hs1, hs2, hs3⟩ := hSw; go_simp <;> with_reducible rfl)
        try simp only [Act.put, List.getElem_toArray, List.getElem_cons_zero, List.setIfInBounds_toArray, List.set_cons_zero, List.set_cons_succ]
        refine but_take (i := 1) (v := ?_) 11 rfl (by kernel_rfl) (by kernel_rfl) (by kernel_rfl) (by kernel_rfl) (by kernel_rfl) (fun _ _ _ h => h) (HS.out _ GD) (Or.inl ⟨by rfl, ?_⟩) ?_
        rotate_left
        · (intro w' hSw; (try dsimp only at hSw); obtain ⟨hs0, hs1, hs2, hs3⟩ := hSw; go_simp <;> with_reducible rfl)
        try simp only [Act.put, List.getElem_toArray, List.getElem_cons_succ, List.getElem_cons_zero, List.setIfInBounds_toArray, List.set_cons_zero, List.set_cons_succ]
        refine but_take (i := 2) (v := ?_) 11 rfl (by kernel_rfl) (by kernel_rfl) (by kernel_rfl) (by kernel_rfl) (by kernel_rfl) (fun _ _ _ h => h) (HS.out _ GD) (Or.inl ⟨by rfl, ?_⟩) ?_
        rotate_left
        · (intro w' hSw; (try dsimp only at hSw); obtain ⟨hs0, hs1, hs2, hs3⟩ := hSw; go_simp <;> with_reducible rfl)
        try simp only [Act.put, List.getElem_toArray, List.getElem_cons_succ, List.getElem_cons_zero, List.setIfInBounds_toArray, List.set_cons_zero, List.set_cons_succ]
        refine but_take (i := 3) (v := ?_) 11 rfl (by kernel_rfl) (by kernel_rfl) (by kernel_rfl) (by kernel_rfl) (by kernel_rfl) (fun _ _ _ h => h) (HS.out _ GD) (Or.inl ⟨by rfl, ?_⟩) ?_
        rotate_left
        · (intro w' hSw; (try dsimp only at hSw); obtain ⟨hs0, hs1, hs2, hs3⟩ := hSw; go_simp <;> with_reducible rfl)
        try simp only [Act.put, List.getElem_toArray, List.getElem_cons_succ, List.getElem_cons_zero, List.setIfInBounds_toArray, List.set_cons_zero, List.set_cons_succ]
        refine but_take (i := 4) (v := ?_) 11 rfl (by kernel_rfl) (by kernel_rfl) (by kernel_rfl) (by kernel_rfl) (by kernel_rfl) (fun _ _ _ h => h) (HS.out _ GD) (Or.inl ⟨by rfl, ?_⟩) ?_
        rotate_left
        · (intro w' hSw; (try dsimp only at hSw); obtain ⟨hs0, hs1, hs2, hs3⟩ := hSw; go_simp <;> with_reducible rfl)
        try simp only [Act.put, List.getElem_toArray, List.getElem_cons_succ, List.getElem_cons_zero, List.setIfInBounds_toArray, List.set_cons_zero, List.set_cons_succ]
        refine but_take (i := 5) (v := ?_) 11 rfl (by kernel_rfl) (by kernel_rfl) (by kernel_rfl) (by kernel_rfl) (by kernel_rfl) (fun _ _ _ h => h) (HS.out _ GD) (Or.inl ⟨by rfl, ?_⟩) ?_
        rotate_left
        · (intro w' hSw; (try dsimp only at hSw); obtain ⟨hs0, hs1, hs2, hs3⟩ := hSw; go_simp <;> with_reducible rfl)
        try simp only [Act.put, List.getElem_toArray, List.getElem_cons_succ, List.getElem_cons_zero, List.setIfInBounds_toArray, List.set_cons_zero, List.set_cons_succ]
        refine but_one (i := 6) (by kernel_rfl) rfl ?_
        intro K HK'
        have HK := Lib.hid HK'
        clear HK'
        skip
        try simp only [List.getElem_toArray, List.getElem_cons_succ, List.getElem_cons_zero]
        go_simp
        go_at_call 83
        refine (HOF.out _ _ (hb.trans GD)).mono ?_
        rintro e wa ⟨va, rfl, hoa, hbwa⟩
        have Gwa := Grow.trans GD hbwa
        obtain ⟨aa, ca, rfl⟩ := owns_form hoa
        have HOA := Lib.hid (Pts.of_own hoa HOK.out)
        clear hoa
        refine HK.out _ _ ⟨fun _ => HS.out _ Gwa, ?_⟩
        clear HK K
        try simp only [Act.put, List.getElem_toArray, List.getElem_cons_succ, List.getElem_cons_zero, List.setIfInBounds_toArray, List.set_cons_zero, List.set_cons_succ]
        refine but_one (i := 7) (by kernel_rfl) rfl ?_
        intro K HK'
        have HK := Lib.hid HK'
        clear HK'
        skip
        try simp only [List.getElem_toArray, List.getElem_cons_succ, List.getElem_cons_zero]
        go_simp
        go_at_call 87
        refine (ref_fits (s0 := s.a) (s1 := s.b) (s2 := s.c) (s3 := s.d) _ HOA.out HKO.out).mono ?_
        rintro e wb ⟨rfl, hbwb⟩
        have Gwb := Grow.trans Gwa hbwb
        refine HK.out _ _ ⟨fun _ => HS.out _ Gwb, ?_⟩
        clear HK K
        try simp only [Act.put, List.getElem_toArray, List.getElem_cons_succ, List.getElem_cons_zero, List.setIfInBounds_toArray, List.set_cons_zero, List.set_cons_succ]
        refine but_one (i := 8) (by kernel_rfl) rfl ?_
        intro K HK'
        have HK := Lib.hid HK'
        clear HK'
        skip
        try simp only [List.getElem_toArray, List.getElem_cons_succ, List.getElem_cons_zero]
        go_simp
        refine HK.out _ _ ⟨fun h => absurd rfl h, ?_⟩
        clear HK K
        try simp only [Act.put, List.getElem_toArray, List.getElem_cons_succ, List.getElem_cons_zero, List.setIfInBounds_toArray, List.set_cons_zero, List.set_cons_succ]
        refine but_done (by kernel_rfl) ?_
        have GQ := Lib.hid Gwb
        have HS2 := Lib.hid (fun (W : World) (hW : Grow wb W) => HS.out W (Grow.trans GQ.out hW))
        have HOB := Lib.hid (HOW.out.grow GQ.out)
        go_wp2
        refine but_start (fun w' => w'.cell? ⟨b, o + k * 4, none⟩ = some (.int .i64 s.a) ∧ w'.cell? ⟨b, o + k * 4 + 1, none⟩ = some (.int .i64 s.b) ∧ w'.cell? ⟨b, o + k * 4 + 2, none⟩ = some (.int .i64 s.c) ∧ w'.cell? ⟨b, o + k * 4 + 3, none⟩ = some (.int .i64 s.d)) 11 (by kernel_rfl) ?_
        obtain ⟨wd, hWd⟩ : ∃ x : World, x = wb.drew := ⟨_, rfl⟩
        rw [← hWd]
        have GD : Grow wb wd := by rw [hWd]; exact (Grow.refl _).drew
        have zD : wb.heap.size = wd.heap.size := by rw [hWd]; rfl
        have ZD := Lib.hid zD
        clear hWd zD
        refine but_take (i := 0) (v := ?_) 14 rfl (by kernel_rfl) (by kernel_rfl) (by kernel_rfl) (by kernel_rfl) (by kernel_rfl) (fun _ _ _ h => h) (HS2.out _ GD) (Or.inl ⟨by rfl, ?_⟩) ?_
        rotate_left
        · (intro w' hSw; (try dsimp only at hSw); obtain ⟨hs0, hs1, hs2, hs3⟩ := hSw; go_simp <;> with_reducible rfl)
        try simp only [Act.put, List.getElem_toArray, List.getElem_cons_zero, List.setIfInBounds_toArray, List.set_cons_zero, List.set_cons_succ]
        refine but_take (i := 1) (v := ?_) 14 rfl (by kernel_rfl) (by kernel_rfl) (by kernel_rfl) (by kernel_rfl) (by kernel_rfl) (fun _ _ _ h => h) (HS2.out _ GD) (Or.inl ⟨by rfl, ?_⟩) ?_
        rotate_left
        · (intro w' hSw; (try dsimp only at hSw); obtain ⟨hs0, hs1, hs2, hs3⟩ := hSw; go_simp <;> with_reducible rfl)
        try simp only [Act.put, List.getElem_toArray, List.getElem_cons_succ, List.getElem_cons_zero, List.setIfInBounds_toArray, List.set_cons_zero, List.set_cons_succ]
        refine but_take (i := 2) (v := ?_) 14 rfl (by kernel_rfl) (by kernel_rfl) (by kernel_rfl) (by kernel_rfl) (by kernel_rfl) (fun _ _ _ h => h) (HS2.out _ GD) (Or.inl ⟨by rfl, ?_⟩) ?_
        rotate_left
        · (intro w' hSw; (try dsimp only at hSw); obtain ⟨hs0, hs1, hs2, hs3⟩ := hSw; go_simp <;> with_reducible rfl)
        try simp only [Act.put, List.getElem_toArray, List.getElem_cons_succ, List.getElem_cons_zero, List.setIfInBounds_toArray, List.set_cons_zero, List.set_cons_succ]
        refine but_take (i := 3) (v := ?_) 14 rfl (by kernel_rfl) (by kernel_rfl) (by kernel_rfl) (by kernel_rfl) (by kernel_rfl) (fun _ _ _ h => h) (HS2.out _ GD) (Or.inl ⟨by rfl, ?_⟩) ?_
        rotate_left
        · (intro w' hSw; (try dsimp only at hSw); obtain ⟨hs0, hs1, hs2, hs3⟩ := hSw; go_simp <;> with_reducible rfl)
        try simp only [Act.put, List.getElem_toArray, List.getElem_cons_succ, List.getElem_cons_zero, List.setIfInBounds_toArray, List.set_cons_zero, List.set_cons_succ]
        refine but_take (i := 4) (v := ?_) 14 rfl (by kernel_rfl) (by kernel_rfl) (by kernel_rfl) (by kernel_rfl) (by kernel_rfl) (fun _ _ _ h => h) (HS2.out _ GD) (Or.inl ⟨by rfl, ?_⟩) ?_
        rotate_left
        · (intro w' hSw; (try dsimp only at hSw); obtain ⟨hs0, hs1, hs2, hs3⟩ := hSw; go_simp <;> with_reducible rfl)
        try simp only [Act.put, List.getElem_toArray, List.getElem_cons_succ, List.getElem_cons_zero, List.setIfInBounds_toArray, List.set_cons_zero, List.set_cons_succ]
        refine but_take (i := 5) (v := ?_) 14 rfl (by kernel_rfl) (by kernel_rfl) (by kernel_rfl) (by kernel_rfl) (by kernel_rfl) (fun _ _ _ h => h) (HS2.out _ GD) (Or.inl ⟨by rfl, ?_⟩) ?_
        rotate_left
        · (intro w' hSw; (try dsimp only at hSw); obtain ⟨hs0, hs1, hs2, hs3⟩ := hSw; go_simp <;> with_reducible rfl)
        try simp only [Act.put, List.getElem_toArray, List.getElem_cons_succ, List.getElem_cons_zero, List.setIfInBounds_toArray, List.set_cons_zero, List.set_cons_succ]
        refine but_take (i := 6) (v := ?_) 14 rfl (by kernel_rfl) (by kernel_rfl) (by kernel_rfl) (by kernel_rfl) (by kernel_rfl) (fun _ _ _ h => h) (HS2.out _ GD) (Or.inl ⟨by rfl, ?_⟩) ?_
        rotate_left
        · (intro w' hSw; (try dsimp only at hSw); obtain ⟨hs0, hs1, hs2, hs3⟩ := hSw; go_simp <;> with_reducible rfl)
        try simp only [Act.put, List.getElem_toArray, List.getElem_cons_succ, List.getElem_cons_zero, List.setIfInBounds_toArray, List.set_cons_zero, List.set_cons_succ]
        refine but_take (i := 7) (v := ?_) 14 rfl (by kernel_rfl) (by kernel_rfl) (by kernel_rfl) (by kernel_rfl) (by kernel_rfl) (fun _ _ _ h => h) (HS2.out _ GD) (Or.inl ⟨by rfl, ?_⟩) ?_
        rotate_left
        · (intro w' hSw; (try dsimp only at hSw); obtain ⟨hs0, hs1, hs2, hs3⟩ := hSw; go_simp <;> with_reducible rfl)
        try simp only [Act.put, List.getElem_toArray, List.getElem_cons_succ, List.getElem_cons_zero, List.setIfInBounds_toArray, List.set_cons_zero, List.set_cons_succ]
        refine but_one (i := 8) (by kernel_rfl) rfl ?_
        intro K HK'
        have HK := Lib.hid HK'
        clear HK'
        skip
        try simp only [List.getElem_toArray, List.getElem_cons_succ, List.getElem_cons_zero]
        go_simp
        go_at_call 83
        refine (HOF.out _ _ (hb.trans (GQ.out.trans GD))).mono ?_
        rintro e we ⟨ve, rfl, hoe, hbwe⟩
        have Gwe := Grow.trans GD hbwe
        obtain ⟨ae, ce, rfl⟩ := owns_form hoe
        have HOE := Lib.hid (Pts.of_own hoe HOK.out)
        clear hoe
        refine HK.out _ _ ⟨fun _ => HS2.out _ Gwe, ?_⟩
        clear HK K
        try simp only [Act.put, List.getElem_toArray, List.getElem_cons_succ, List.getElem_cons_zero, List.setIfInBounds_toArray, List.set_cons_zero, List.set_cons_succ]
        refine but_one (i := 9) (by kernel_rfl) rfl ?_
        intro K HK'
        have HK := Lib.hid HK'
        clear HK'
        skip
        try simp only [List.getElem_toArray, List.getElem_cons_succ, List.getElem_cons_zero]
        go_simp
        go_at_call 89
        refine (ref_do (s := s) _ HOE.out HKO.out).mono ?_
        rintro e wf ⟨rfl, hbwf⟩
        have Gwf := Grow.trans Gwe hbwf
        refine HK.out _ _ ⟨fun _ => HS2.out _ Gwf, ?_⟩
        clear HK K
        try simp only [Act.put, List.getElem_toArray, List.getElem_cons_succ, List.getElem_cons_zero, List.setIfInBounds_toArray, List.set_cons_zero, List.set_cons_succ]
        refine but_take (i := 10) (v := ?_) 14 rfl (by kernel_rfl) (by kernel_rfl) (by kernel_rfl) (by kernel_rfl) (by kernel_rfl) (fun _ _ _ h => h) (HS2.out _ Gwf) (Or.inl ⟨by rfl, ?_⟩) ?_
        rotate_left
        · (intro w' hSw; (try dsimp only at hSw); obtain ⟨hs0, hs1, hs2, hs3⟩ := hSw; go_simp <;> with_reducible rfl)
        try simp only [Act.put, List.getElem_toArray, List.getElem_cons_succ, List.getElem_cons_zero, List.setIfInBounds_toArray, List.set_cons_zero, List.set_cons_succ]
        refine but_one (i := 11) (by kernel_rfl) rfl ?_
        intro K HK'
        have HK := Lib.hid HK'
        clear HK'
        refine wanted_go rfl ?_
        try simp only [List.getElem_toArray, List.getElem_cons_succ, List.getElem_cons_zero]
        refine wp_store_el (T := Ty.sm) (i := k) (x := doP s (ofL P k)) (cells := #[.int .i64 (doP s (ofL P k)).a, .int .i64 (doP s (ofL P k)).b, .int .i64 (doP s (ofL P k)).c, .int .i64 (doP s (ofL P k)).d]) (.tmp 39) (.tmp 38) rfl rfl rfl (by (try show _ = k * 4); omega) (HOB.out.grow Gwf) (by rw [HLO.out]; exact hlt) info_sm ⟨rfl, HSK.out.1, HSK.out.2.1, HSK.out.2.2.1, HSK.out.2.2.2⟩ rfl ?_
        intro wz hoz hgz
        have HOZ := Lib.hid hoz
        have GZ := Lib.hid (Grow.grown (hb.trans (GQ.out.trans Gwf)) hgz (fun q hq => by obtain rfl := Option.some.inj hq; exact HGB.out))
        clear hoz hgz
        refine HK.out _ _ ⟨fun h => absurd rfl h, ?_⟩
        clear HK K
        try simp only [Act.put]
        refine but_done (by kernel_rfl) ?_
        go_wp2
        go_roundw
        case rel => exact ⟨k + 1, by omega, by go_num, GZ.out, HEN.out, (by have h := HOZ.out; rw [HLO.out, HON.out] at h; exact h)⟩
        case measure => simp [intOf]; omega
      · have HER := Lib.hid (show doAllE S P = (S, fitsE (S4 s.a s.b s.c s.d) (ofL P k)) by
          have e1 : errGo P 0 S = fitsE (S4 s.a s.b s.c s.d) (ofL P k) := by rw [hE, if_neg hf]
          unfold doAllE
          rw [if_neg (by rw [e1]; exact hf), e1])
        have hbf : (fitsE (S4 s.a s.b s.c s.d) (ofL P k) != 0) = true := by simp [hf]
        clear hE hf
        go_wp2
        refine but_start (fun w' => w'.cell? ⟨b, o + k * 4, none⟩ = some (.int .i64 s.a) ∧ w'.cell? ⟨b, o + k * 4 + 1, none⟩ = some (.int .i64 s.b) ∧ w'.cell? ⟨b, o + k * 4 + 2, none⟩ = some (.int .i64 s.c) ∧ w'.cell? ⟨b, o + k * 4 + 3, none⟩ = some (.int .i64 s.d)) 8 (by kernel_rfl) ?_
        obtain ⟨wd, hWd⟩ : ∃ x : World, x = wr.drew := ⟨_, rfl⟩
        rw [← hWd]
        have GD : Grow wr wd := by rw [hWd]; exact (Grow.refl _).drew
        have zD : wr.heap.size = wd.heap.size := by rw [hWd]; rfl
        have ZD := Lib.hid zD
        clear hWd zD
        refine but_take (i := 0) (v := ?_) 11 rfl (by kernel_rfl) (by kernel_rfl) (by kernel_rfl) (by kernel_rfl) (by kernel_rfl) (fun _ _ _ h => h) (HS.out _ GD) (Or.inl ⟨by rfl, ?_⟩) ?_
        rotate_left
        · (intro w' hSw; (try dsimp only at hSw); obtain ⟨hs0, hs1, hs2, hs3⟩ := hSw; go_simp <;> with_reducible rfl)
        try simp only [Act.put, List.getElem_toArray, List.getElem_cons_zero, List.setIfInBounds_toArray, List.set_cons_zero, List.set_cons_succ]
        refine but_take (i := 1) (v := ?_) 11 rfl (by kernel_rfl) (by kernel_rfl) (by kernel_rfl) (by kernel_rfl) (by kernel_rfl) (fun _ _ _ h => h) (HS.out _ GD) (Or.inl ⟨by rfl, ?_⟩) ?_
        rotate_left
        · (intro w' hSw; (try dsimp only at hSw); obtain ⟨hs0, hs1, hs2, hs3⟩ := hSw; go_simp <;> with_reducible rfl)
        try simp only [Act.put, List.getElem_toArray, List.getElem_cons_succ, List.getElem_cons_zero, List.setIfInBounds_toArray, List.set_cons_zero, List.set_cons_succ]
        refine but_take (i := 2) (v := ?_) 11 rfl (by kernel_rfl) (by kernel_rfl) (by kernel_rfl) (by kernel_rfl) (by kernel_rfl) (fun _ _ _ h => h) (HS.out _ GD) (Or.inl ⟨by rfl, ?_⟩) ?_
        rotate_left
        · (intro w' hSw; (try dsimp only at hSw); obtain ⟨hs0, hs1, hs2, hs3⟩ := hSw; go_simp <;> with_reducible rfl)
        try simp only [Act.put, List.getElem_toArray, List.getElem_cons_succ, List.getElem_cons_zero, List.setIfInBounds_toArray, List.set_cons_zero, List.set_cons_succ]
        refine but_take (i := 3) (v := ?_) 11 rfl (by kernel_rfl) (by kernel_rfl) (by kernel_rfl) (by kernel_rfl) (by kernel_rfl) (fun _ _ _ h => h) (HS.out _ GD) (Or.inl ⟨by rfl, ?_⟩) ?_
        rotate_left
        · (intro w' hSw; (try dsimp only at hSw); obtain ⟨hs0, hs1, hs2, hs3⟩ := hSw; go_simp <;> with_reducible rfl)
        try simp only [Act.put, List.getElem_toArray, List.getElem_cons_succ, List.getElem_cons_zero, List.setIfInBounds_toArray, List.set_cons_zero, List.set_cons_succ]
        refine but_take (i := 4) (v := ?_) 11 rfl (by kernel_rfl) (by kernel_rfl) (by kernel_rfl) (by kernel_rfl) (by kernel_rfl) (fun _ _ _ h => h) (HS.out _ GD) (Or.inl ⟨by rfl, ?_⟩) ?_
        rotate_left
        · (intro w' hSw; (try dsimp only at hSw); obtain ⟨hs0, hs1, hs2, hs3⟩ := hSw; go_simp <;> with_reducible rfl)
        try simp only [Act.put, List.getElem_toArray, List.getElem_cons_succ, List.getElem_cons_zero, List.setIfInBounds_toArray, List.set_cons_zero, List.set_cons_succ]
        refine but_take (i := 5) (v := ?_) 11 rfl (by kernel_rfl) (by kernel_rfl) (by kernel_rfl) (by kernel_rfl) (by kernel_rfl) (fun _ _ _ h => h) (HS.out _ GD) (Or.inl ⟨by rfl, ?_⟩) ?_
        rotate_left
        · (intro w' hSw; (try dsimp only at hSw); obtain ⟨hs0, hs1, hs2, hs3⟩ := hSw; go_simp <;> with_reducible rfl)
        try simp only [Act.put, List.getElem_toArray, List.getElem_cons_succ, List.getElem_cons_zero, List.setIfInBounds_toArray, List.set_cons_zero, List.set_cons_succ]
        refine but_one (i := 6) (by kernel_rfl) rfl ?_
        intro K HK'
        have HK := Lib.hid HK'
        clear HK'
        skip
        try simp only [List.getElem_toArray, List.getElem_cons_succ, List.getElem_cons_zero]
        go_simp
        go_at_call 83
        refine (HOF.out _ _ (hb.trans GD)).mono ?_
        rintro e wa ⟨va, rfl, hoa, hbwa⟩
        have Gwa := Grow.trans GD hbwa
        obtain ⟨aa, ca, rfl⟩ := owns_form hoa
        have HOA := Lib.hid (Pts.of_own hoa HOK.out)
        clear hoa
        refine HK.out _ _ ⟨fun _ => HS.out _ Gwa, ?_⟩
        clear HK K
        try simp only [Act.put, List.getElem_toArray, List.getElem_cons_succ, List.getElem_cons_zero, List.setIfInBounds_toArray, List.set_cons_zero, List.set_cons_succ]
        refine but_one (i := 7) (by kernel_rfl) rfl ?_
        intro K HK'
        have HK := Lib.hid HK'
        clear HK'
        skip
        try simp only [List.getElem_toArray, List.getElem_cons_succ, List.getElem_cons_zero]
        go_simp
        go_at_call 87
        refine (ref_fits (s0 := s.a) (s1 := s.b) (s2 := s.c) (s3 := s.d) _ HOA.out HKO.out).mono ?_
        rintro e wb ⟨rfl, hbwb⟩
        have Gwb := Grow.trans Gwa hbwb
        refine HK.out _ _ ⟨fun _ => HS.out _ Gwb, ?_⟩
        clear HK K
        try simp only [Act.put, List.getElem_toArray, List.getElem_cons_succ, List.getElem_cons_zero, List.setIfInBounds_toArray, List.set_cons_zero, List.set_cons_succ]
        refine but_one (i := 8) (by kernel_rfl) rfl ?_
        intro K HK'
        have HK := Lib.hid HK'
        clear HK'
        skip
        try simp only [List.getElem_toArray, List.getElem_cons_succ, List.getElem_cons_zero]
        go_simp
        refine HK.out _ _ ⟨fun h => absurd rfl h, ?_⟩
        clear HK K
        try simp only [Act.put, List.getElem_toArray, List.getElem_cons_succ, List.getElem_cons_zero, List.setIfInBounds_toArray, List.set_cons_zero, List.set_cons_succ]
        refine but_done (by kernel_rfl) ?_
        have GQ := Lib.hid Gwb
        have HS2 := Lib.hid (fun (W : World) (hW : Grow wb W) => HS.out W (Grow.trans GQ.out hW))
        go_wp2
        refine bodyPost_ret (v := .tuple #[.slice (some ⟨b, o, none⟩) S.length cap, .int .i64 (fitsE (S4 s.a s.b s.c s.d) (ofL P k))]) (by simp [results, Try.results93, go_sem]) rfl ?_
        exact ⟨_, by rw [HER.out], by rw [HER.out]; exact HVR.out.mono (hb.trans GQ.out).sub, hb.trans GQ.out, .inr ⟨rfl, by rw [HER.out]⟩⟩
    · have hk2 : k = S.length := by omega
      have HE9 := Lib.hid (show doAllE S P = (putGo P 0 S, 0) by
        have e1 : errGo P 0 S = 0 := by rw [hE, List.drop_of_length_le (by omega)]; rfl
        unfold doAllE
        rw [if_pos e1])
      have h9 := hown.sl (by decide) hb.sub
      rw [List.drop_of_length_le (by omega), List.append_nil, List.take_of_length_le (by rw [putGo_len]; omega)] at h9
      have H9 := Lib.hid h9
      have H10 : Hid (OwnC Ty.sm (fun _ => none) wr w.heap.size 25 (.slice a1 S.length c1) (putGo P 0 S)) := Lib.hid (by
        have h10 := hown.sm_any (c' := fun _ => none)
        rw [List.drop_of_length_le (by omega), List.append_nil, List.take_of_length_le (by rw [putGo_len]; omega)] at h10
        exact h10)
      clear hel h9 hown hE
      go_wp2
      refine bodyPost_ret (v := .tuple #[.slice a1 S.length c1, .int .i64 0]) (by simp [results, Try.results93, go_sem]) rfl ?_
      exact ⟨_, by rw [HE9.out], by rw [HE9.out]; exact H9.out, hb, .inl (by rw [HE9.out]; exact H10.out)⟩
end Go.Proofs.Ytgbhpghgohggcaa

/- Walks: model.Do. -/
namespace Go.Proofs.Ytgbhpghgohggcaa
open Go.RowKit
theorem getD_at {S : List Sm} {n : Nat} (h : n < S.length) : S.getD n ⟨0, 0, 0, 0⟩ = S[n] := by
  rw [List.getD_eq_getElem?_getD, List.getElem?_eq_getElem h]; rfl
set_option maxRecDepth 100000 in
set_option maxHeartbeats 4000000 in
theorem model_do {v vp : Value} {S : List Sm} {P : List Pt} (w : World) (hv : Sms w.cell? v S) (hp : Pts w.cell? vp P) (hw : wrongE P S.length = 0) (h1 : 1 ≤ S.length) (h3 : S.length ≤ 3) :
    Calls Try.prog 92 #[v, vp] w fun e w' => ∃ v', e = .returned (.tuple #[v', .int .i64 (doAllE S P).2]) ∧ Sms w'.cell? v' (doAllE S P).1 ∧ Grow w w' ∧ OwnC Ty.sm (fun _ => none) w' w.heap.size 25 v' (doAllE S P).1 := by
  have h0 := wrong_ok hw
  have HALL : Hid (doGo P S S (housesE P) = doAllE S P) := Lib.hid (doGo_all h1 h3 fun p hp => by have := h0.2.2.1 p hp; omega)
  have HIN : Hid (∀ n ∈ housesE P, 0 ≤ n ∧ n < S.length) := fun n hn => houses_lt hw hn
  have hne : P ≠ [] := by intro e; rw [e] at h0; simp at h0
  have HCL := Lib.hid (fun (W : World) (hW : Grow w W) => clone_sm W (hv.mono hW.sub) (by omega))
  have HPH := Lib.hid (fun (W : World) (hW : Grow w W) => part_houses W (hp.mono hW.sub) (by omega) hne (fun p hp => by have := h0.2.2.1 p hp; omega))
  have HPO := Lib.hid (fun (n : Int) (W : World) (hW : Grow w W) => part_of (n := n) W (hp.mono hW.sub) (by omega))
  have HKA := Lib.hid (fun (n : Int) => ofL_ok hw n)
  have HSO : Hid (∀ x ∈ S, SmOk x) := fun x hx => by
    obtain ⟨a, cap, rfl, -, -, -, hel⟩ := hv
    obtain ⟨i, hi⟩ := List.mem_iff_getElem?.1 hx
    obtain ⟨b, o, cs, -, hR, -⟩ := hel i x hi
    exact hR.2
  obtain ⟨ap, cp, rfl, -⟩ := hp
  obtain ⟨a, cap, rfl, h1', h2, -, hel⟩ := hv
  unfold maxLen at h2
  clear hw hne h0
  go_enter Try.func92, Try.ntmps92
  go_wp2_with fail
  refine (HCL.out _ (Grow.refl _)).mono ?_
  rintro e w1 ⟨v1, rfl, ho1, hb1⟩
  have HO1 : Hid (OwnC Ty.sm (fun _ => none) w1 w.heap.size 25 v1 S) := Lib.hid (OwnC.of_flat (T := Ty.sm) (f := Sm.cells) ho1 fun x hx => ⟨rfl, HSO.out x hx⟩)
  obtain ⟨a1, c1, rfl⟩ := HO1.out.form
  have HB1 := Lib.hid hb1
  have hmx : S.length ≤ c1 ∧ c1 ≤ 9223372036854775807 := by
    obtain ⟨a0, c0, he, h0, h01, -⟩ := HO1.out.sl (by decide) (fun a v e => by cases e)
    simp only [Value.slice.injEq] at he
    unfold maxLen at h01
    omega
  obtain ⟨g, cs0, rfl, -, -⟩ := HO1.out.get (by decide) 0 (by omega)
  have HGB := Lib.hid ((HO1.out.lt g rfl).1)
  clear hb1 ho1
  go_wp2_with fail
  refine (HPH.out _ HB1.out).mono ?_
  rintro e w2 ⟨v2, rfl, ho2, hb2⟩
  obtain ⟨a2, c2, rfl⟩ := owns_form ho2
  have HB2 := Lib.hid (HB1.out.trans hb2)
  have HI2 := (OwnC.ints (c := fun _ => none) ho2 (fun x hx => by have := HIN.out x hx; unfold I64; simp [Lit.wf, IntKind.min, IntKind.max, IntKind.signed, IntKind.bits]; omega)).slc (d := ov (fun _ => none) w1 w2) (by decide) (fun a v e => by cases e) (fun a h => ov_new h)
  have HS2 := Lib.hid (ov_sub (c := fun _ => none) (W := w1) (w := w2) (fun a v e => by cases e) hb2)
  have HNG : Hid (g < w1.heap.size) := Lib.hid (HO1.out.lt g rfl).2
  obtain ⟨a2', c2', he2, p1, p2, -, hel2⟩ := HI2
  obtain ⟨rfl, rfl⟩ : a2 = a2' ∧ c2 = c2' := by simpa using he2
  unfold maxLen at p2
  have HO2 := Lib.hid (HO1.out.grow hb2)
  clear ho2 hb2 he2
  generalize housesE P = ns at *
  go_wp2
  go_loopw [4, 5, 8, 9, 10, 16] (fun _ _ _ _ _ i wr => ∃ (k : Nat) (out : List Sm), k ≤ ns.length ∧ i = .int .i64 k ∧ Grow w wr ∧ Sub (ov (fun _ => none) w1 w2) wr.cell? ∧ out.length = S.length ∧ OwnC Ty.sm (fun _ => none) wr w.heap.size 25 (.slice (some ⟨g, 0, none⟩) S.length c1) out ∧ doGo P S S ns = doGo P S out (ns.drop k)) (fun _ _ _ _ _ i _ => ns.length - (intOf i).toNat)
  case atStart => exact ⟨0, S, by omega, rfl, HB2.out, HS2.out, rfl, HO2.out, rfl⟩
  case round =>
    obtain ⟨k, out, hk', rfl, hb, hsub, hlo, hown, hE⟩ := hrel
    by_cases hlt : k < ns.length
    · obtain ⟨b2, o2, rfl, e0, -⟩ := intAt hel2 k hlt
      replace e0 := hsub _ _ e0
      have hn := HIN.out ns[k] (List.getElem_mem hlt)
      rw [List.drop_eq_getElem_cons hlt, doGo] at hE
      generalize ns[k] = n at *
      obtain ⟨m, rfl⟩ : ∃ m : Nat, n = m := ⟨n.toNat, by omega⟩
      have hmS : m < S.length := by omega
      obtain ⟨b, o, rfl, q0, q1, q2, q3, i0, i1, i2, i3⟩ := smAt hel m hmS
      replace q0 := hb.sub _ _ q0
      replace q1 := hb.sub _ _ q1
      replace q2 := hb.sub _ _ q2
      replace q3 := hb.sub _ _ q3
      simp only [Int.toNat_natCast] at hE
      rw [getD_at hmS] at hE
      have HSK : Hid (SmOk (doP S[m] (ofL P m))) := Lib.hid (SmOk.doP ⟨i0, i1, i2, i3⟩ _)
      have hown2 := hown
      rw [← hlo] at hown2
      have HOW := Lib.hid hown2
      have HLO := Lib.hid hlo
      have HB := Lib.hid hb
      have HSB := Lib.hid hsub
      have HKO := Lib.hid (HKA.out (m : Int))
      have HMS := Lib.hid hmS
      clear hel hel2 hown hown2 i0 i1 i2 i3 hb hlo hn hsub
      generalize S[m] = s at *
      rw [show s.get = S4 s.a s.b s.c s.d from rfl] at hE
      by_cases hf : fitsE (S4 s.a s.b s.c s.d) (ofL P m) = 0
      · have HEN := Lib.hid (show doGo P S S ns = doGo P S (out.set m (doP s (ofL P m))) (ns.drop (k + 1)) by rw [hE, if_pos hf])
        have hbf : (fitsE (S4 s.a s.b s.c s.d) (ofL P m) != 0) = false := by simp [hf]
        clear hE hf
        go_wp2_with fail
        refine (HPO.out _ _ HB.out).mono ?_
        rintro e w3 ⟨v3, rfl, ho3, hb3⟩
        obtain ⟨a3, c3, rfl⟩ := ho3.form
        have HP3 := Lib.hid (ho3.sl (by decide) (fun a v e => by cases e))
        have HB3 := Lib.hid hb3
        replace q0 := hb3.sub _ _ q0
        replace q1 := hb3.sub _ _ q1
        replace q2 := hb3.sub _ _ q2
        replace q3 := hb3.sub _ _ q3
        clear ho3 hb3 e0
        go_wp2_with fail
        refine (part_fits (s0 := s.a) (s1 := s.b) (s2 := s.c) (s3 := s.d) _ HP3.out HKO.out).mono ?_
        rintro e w4 ⟨rfl, hb4⟩
        have HB4 := Lib.hid (HB3.out.trans hb4)
        have HP4 := Lib.hid (HP3.out.mono hb4.sub)
        replace q0 := hb4.sub _ _ q0
        replace q1 := hb4.sub _ _ q1
        replace q2 := hb4.sub _ _ q2
        replace q3 := hb4.sub _ _ q3
        clear hb4
        go_wp2_with fail
        refine (part_do (s := s) _ HP4.out HKO.out).mono ?_
        rintro e w5 ⟨rfl, hb5⟩
        have HB5 := Lib.hid (HB4.out.trans hb5)
        clear hb5 q0 q1 q2 q3
        have HOB := Lib.hid (HOW.out.grow HB5.out)
        go_wp2_with (first | (refine wpList_store_el (T := Ty.sm) (i := m) (x := doP s (ofL P m)) (cells := #[.int .i64 (doP s (ofL P m)).a, .int .i64 (doP s (ofL P m)).b, .int .i64 (doP s (ofL P m)).c, .int .i64 (doP s (ofL P m)).d]) rfl (.tmp 42) (.tmp 41) rfl rfl rfl ?hp HOB.out ?hi info_sm ⟨rfl, HSK.out.1, HSK.out.2.1, HSK.out.2.2.1, HSK.out.2.2.2⟩ rfl ?_))
        case hp => show _ = m * 4; omega
        case hi => rw [HLO.out]; exact HMS.out
        intro wz hoz hgz
        have HOZ : Hid (OwnC Ty.sm (fun _ => none) wz w.heap.size 25 (.slice (some ⟨g, 0, none⟩) S.length c1) (out.set m (doP s (ofL P m)))) := Lib.hid (by rw [← HLO.out]; exact hoz)
        have HGZ := Lib.hid (Grow.grown (HB.out.trans HB5.out) hgz (fun q hq => by obtain rfl := Option.some.inj hq; exact HGB.out))
        have HSZ : Hid (Sub (ov (fun _ => none) w1 w2) wz.cell?) := Lib.hid (fun a v e => by
          have e2 := (HSB.out.trans HB5.out.sub) a v e
          have hag : a.block ≠ g := by
            intro hag
            unfold ov at e
            rw [if_pos (by have := HNG.out; omega)] at e
            cases e
          rw [by_cell hgz (World.block_lt_of_cell? w5 a e2) hag]; exact e2)
        clear hoz hgz
        go_wp2
        go_roundw
        case rel => exact ⟨k + 1, _, by omega, by go_num, HGZ.out, HSZ.out, by rw [List.length_set]; exact HLO.out, HOZ.out, HEN.out⟩
        case measure => simp [intOf]; omega
      · have HER := Lib.hid (show doAllE S P = (S, fitsE (S4 s.a s.b s.c s.d) (ofL P m)) by
          rw [← HALL.out, hE, if_neg hf])
        have hbf : (fitsE (S4 s.a s.b s.c s.d) (ofL P m) != 0) = true := by simp [hf]
        clear hE hf
        go_wp2_with fail
        refine (HPO.out _ _ HB.out).mono ?_
        rintro e w3 ⟨v3, rfl, ho3, hb3⟩
        obtain ⟨a3, c3, rfl⟩ := ho3.form
        have HP3 := Lib.hid (ho3.sl (by decide) (fun a v e => by cases e))
        have HB3 := Lib.hid hb3
        replace q0 := hb3.sub _ _ q0
        replace q1 := hb3.sub _ _ q1
        replace q2 := hb3.sub _ _ q2
        replace q3 := hb3.sub _ _ q3
        clear ho3 hb3 e0
        go_wp2_with fail
        refine (part_fits (s0 := s.a) (s1 := s.b) (s2 := s.c) (s3 := s.d) _ HP3.out HKO.out).mono ?_
        rintro e w4 ⟨rfl, hb4⟩
        have HB4 := Lib.hid (HB.out.trans (HB3.out.trans hb4))
        clear hb4 q0 q1 q2 q3
        go_wp2_with fail
        refine (HCL.out _ HB4.out).mono ?_
        rintro e w5 ⟨v5, rfl, ho5, hb5⟩
        have HO5 : Hid (OwnC Ty.sm (fun _ => none) w5 w4.heap.size 25 v5 S) := Lib.hid (OwnC.of_flat (T := Ty.sm) (f := Sm.cells) ho5 fun x hx => ⟨rfl, HSO.out x hx⟩)
        have HB5 := Lib.hid (HB4.out.trans hb5)
        clear ho5 hb5
        obtain ⟨a5, c5, rfl⟩ := HO5.out.form
        go_wp2
        refine bodyPost_ret (v := .tuple #[.slice a5 S.length c5, .int .i64 (fitsE (S4 s.a s.b s.c s.d) (ofL P m))]) (by simp [results, Try.results92, go_sem]) rfl ?_
        exact ⟨_, by rw [HER.out], by rw [HER.out]; exact HO5.out.sl (by decide) (fun a v e => by cases e), HB5.out, by rw [HER.out]; exact HO5.out.base HB4.out.size⟩
    · have HR9 := Lib.hid (show doAllE S P = (out, 0) by
        rw [← HALL.out, hE, List.drop_of_length_le (by omega)]; rfl)
      have H10 := Lib.hid hown
      have H9 : Hid (Sms wr.cell? (.slice (some ⟨g, 0, none⟩) S.length c1) out) := Lib.hid (by
        have h8 := hown
        rw [← hlo] at h8
        have h9 := h8.sl (by decide) (fun a v e => by cases e)
        rw [hlo] at h9
        exact h9)
      clear hel hel2 hE hown
      go_wp2
      refine bodyPost_ret (v := .tuple #[.slice (some ⟨g, 0, none⟩) S.length c1, .int .i64 0]) (by simp [results, Try.results92, go_sem]) rfl ?_
      exact ⟨_, by rw [HR9.out], by rw [HR9.out]; exact H9.out, hb, by rw [HR9.out]; exact H10.out⟩
end Go.Proofs.Ytgbhpghgohggcaa

/- Walks: model.All; All of the document's answer. -/
namespace Go.Proofs.Ytgbhpghgohggcaa
open Go.RowKit
theorem all_snoc : ∀ (S : List Sm) (D : List Rd) (r : Rd), allE S (D ++ [r]) = ((doAllE (allE S D).1 r.parts).1, (allE S D).2 ++ [(doAllE (allE S D).1 r.parts).2])
  | S, [], r => rfl
  | S, q :: D, r => by rw [List.cons_append, allE, all_snoc, allE]; rfl
theorem all_len : ∀ (S : List Sm) (D : List Rd), (allE S D).2.length = D.length
  | _, [] => rfl
  | S, r :: D => by rw [allE, List.length_cons, List.length_cons, all_len]
theorem doAll_len' (S : List Sm) (P : List Pt) : (doAllE S P).1.length = S.length := by
  unfold doAllE
  split
  · exact putGo_len _ _
  · rfl
theorem all_len1 : ∀ (S : List Sm) (D : List Rd), (allE S D).1.length = S.length
  | _, [] => rfl
  | S, r :: D => by rw [allE, all_len1, doAll_len']
theorem fits_i64 (f : Int → Int) : ∀ l : List Pt, I64 (fitsE f l)
  | [] => zero_ok
  | p :: l => by
    unfold fitsE
    split
    · show I64 11; unfold I64; decide
    · split
      · show I64 4; unfold I64; decide
      · exact fits_i64 f l
theorem err_i64 (P : List Pt) : ∀ (S : List Sm) (k : Nat), I64 (errGo P k S)
  | [], _ => zero_ok
  | s :: S, k => by
    unfold errGo
    split
    · exact err_i64 P S _
    · exact fits_i64 _ _
theorem doAll_i64 (S : List Sm) (P : List Pt) : I64 (doAllE S P).2 := by
  unfold doAllE
  split
  · exact zero_ok
  · exact err_i64 P S 0
theorem make_sums {n : Nat} (h : 1 ≤ n ∧ n ≤ 3) : ∃ cs : Array Value, (∀ w : World, (Instr.makeSlice 98 (.int .i64 n) (.int .i64 n)).run Try.prog w = .ok (.slice (some ⟨w.heap.size, 0, none⟩) n n) (w.alloc (.cells cs 25))) ∧
    ∀ (w : World), OwnC Ty.sm (fun _ => none) (w.alloc (.cells cs 25)) w.heap.size 25 (.slice (some ⟨w.heap.size, 0, none⟩) n n) (List.replicate n ⟨0, 0, 0, 0⟩) := by
  have key : ∀ (m : Nat) (cs : Array Value), m ≤ 3 → cs.toList = (List.replicate m (⟨0, 0, 0, 0⟩ : Sm)).flatMap Sm.cells → ∀ (w : World), OwnC Ty.sm (fun _ => none) (w.alloc (.cells cs 25)) w.heap.size 25 (.slice (some ⟨w.heap.size, 0, none⟩) m m) (List.replicate m ⟨0, 0, 0, 0⟩) := by
    intro m cs hm hc w
    have h1 := World.ownsRow_lit (base := w.heap.size) (e := 25) (size := 4) w cs m (Nat.le_refl _) (by unfold maxLen; omega) (by rw [← Array.length_toList, hc, flat_len (f := Sm.cells) (size := 4) (fun _ => rfl)]; simp)
    rw [hc] at h1
    have h2 := OwnC.of_flat (T := Ty.sm) (f := Sm.cells) (c := fun _ => none) (l := List.replicate m ⟨0, 0, 0, 0⟩) (by rw [List.length_replicate]; exact h1) (fun x hx => by
      rw [List.eq_of_mem_replicate hx]
      exact ⟨rfl, zero_ok, zero_ok, zero_ok, zero_ok⟩)
    exact h2
  obtain ⟨h1, h2⟩ := h
  match n, h1, h2 with
  | 1, _, _ => exact ⟨#[.int .i64 0, .int .i64 0, .int .i64 0, .int .i64 0], fun w => by kernel_rfl, key 1 _ (by decide) rfl⟩
  | 2, _, _ => exact ⟨#[.int .i64 0, .int .i64 0, .int .i64 0, .int .i64 0, .int .i64 0, .int .i64 0, .int .i64 0, .int .i64 0], fun w => by kernel_rfl, key 2 _ (by decide) rfl⟩
  | 3, _, _ => exact ⟨#[.int .i64 0, .int .i64 0, .int .i64 0, .int .i64 0, .int .i64 0, .int .i64 0, .int .i64 0, .int .i64 0, .int .i64 0, .int .i64 0, .int .i64 0, .int .i64 0], fun w => by kernel_rfl, key 3 _ (by decide) rfl⟩
set_option maxRecDepth 100000 in
set_option maxHeartbeats 2000000 in
theorem model_all {v : Value} {n : Nat} {D : List Rd} (w : World) (hn : 1 ≤ n ∧ n ≤ 3) (hv : Sl Ty.rd w.cell? v D) (hD : ∀ r ∈ D, wrongE r.parts n = 0) (hm : D.length * 8 ≤ 140737488355328) :
    Calls Try.prog 95 #[.int .i64 n, v] w fun e w' => ∃ v1 v2, e = .returned (.tuple #[v1, v2]) ∧ Sms w'.cell? v1 (allE (List.replicate n ⟨0, 0, 0, 0⟩) D).1 ∧ Sl Ty.int w'.cell? v2 (allE (List.replicate n ⟨0, 0, 0, 0⟩) D).2 ∧ Grow w w' := by
  obtain ⟨cs, hmk, hms⟩ := make_sums hn
  have HMS := Lib.hid (hms w)
  obtain ⟨a, cap, rfl, h1, h2, -, hel⟩ := hv
  unfold maxLen at h2
  have HN := Lib.hid hn
  have HM := Lib.hid hm
  clear hms hm
  go_enter Try.func95, Try.ntmps95
  go_wp2
  clear hmk
  go_loopw [6, 7, 10, 11, 16] (fun sS sE _ _ i wr => ∃ k : Nat, k ≤ D.length ∧ i = .int .i64 k ∧ Grow w wr ∧ OwnC Ty.sm (fun _ => none) wr w.heap.size 25 sS (allE (List.replicate n ⟨0, 0, 0, 0⟩) (D.take k)).1 ∧ (∀ g, sS.ownBlock = some g → sE.ownBlock ≠ some g) ∧ OwnC Ty.int (fun _ => none) wr w.heap.size 40 sE (allE (List.replicate n ⟨0, 0, 0, 0⟩) (D.take k)).2) (fun _ _ _ _ i _ => D.length - (intOf i).toNat)
  case atStart => exact ⟨0, by omega, rfl, (Grow.refl w).alloc _, HMS.out, fun g _ e => by simp [Value.ownBlock] at e, OwnC.nil _ _ _ _ _⟩
  case round =>
    obtain ⟨k, hk', rfl, hb, hOS, hne, hE⟩ := hrel
    have hS := hOS.sl (by decide) (fun a v e => by cases e)
    obtain ⟨aS, cS, rfl⟩ := hOS.form
    obtain ⟨aE, cE, rfl⟩ := hE.form
    by_cases hlt : k < D.length
    · obtain ⟨b, o, vp, rfl, c0, c1, i0, hP⟩ := Rds.at_ hel k hlt
      obtain ⟨ap, cp, rfl, -⟩ := id hP
      have hw := hD D[k] (List.getElem_mem hlt)
      have HSN := Lib.hid (all_snoc (List.replicate n ⟨0, 0, 0, 0⟩) (D.take k) D[k])
      rw [← List.take_succ_eq_append_getElem hlt] at HSN
      have hel2 : (allE (List.replicate n ⟨0, 0, 0, 0⟩) (D.take k)).2.length = k := by rw [all_len]; simp; omega
      have HEL := Lib.hid hel2
      clear hel2
      have hsl : (allE (List.replicate n ⟨0, 0, 0, 0⟩) (D.take k)).1.length = n := by rw [all_len1]; simp
      replace c0 := hb.sub _ _ c0
      replace c1 := hb.sub _ _ c1
      have h0 := wrong_ok hw
      have HCA := Lib.hid (fun (W : World) (hW : Grow wr W) => model_do W (hS.mono hW.sub) (hP.mono (hb.trans hW).sub) (by rw [hsl]; exact hw) (by rw [hsl]; exact HN.out.1) (by rw [hsl]; exact HN.out.2))
      have HI := Lib.hid (doAll_i64 (allE (List.replicate n ⟨0, 0, 0, 0⟩) (D.take k)).1 D[k].parts)
      have HE := Lib.hid hE
      have HOS := Lib.hid hOS
      have HNE := Lib.hid hne
      have HB := Lib.hid hb
      clear hel hS hE hP hw h0 hD hb i0 hsl hOS hne
      generalize (allE (List.replicate n ⟨0, 0, 0, 0⟩) (D.take k)).1 = S at *
      generalize (allE (List.replicate n ⟨0, 0, 0, 0⟩) (D.take k)).2 = E at *
      generalize D[k] = r at *
      generalize (doAllE S r.parts).1 = S' at *
      generalize (doAllE S r.parts).2 = er at *
      go_wp2_with fail
      refine (HCA.out _ ((Grow.refl wr).alloc _)).mono ?_
      rintro e w3 ⟨v3, rfl, hS3, hb3, hO3⟩
      obtain ⟨a3, c3, rfl, -⟩ := id hS3
      have HS3 : Hid (OwnC Ty.sm (fun _ => none) w3 w.heap.size 25 (.slice a3 S'.length c3) S' ∧ ∀ g, (Value.slice a3 S'.length c3).ownBlock = some g → (Value.slice aE E.length cE).ownBlock ≠ some g) := Lib.hid ⟨hO3.base (by have := HB.out.size; simp; omega), fun g hg e => by have := (hO3.lt g hg).1; have := (HE.out.lt g e).2; simp at *; omega⟩
      have HB3 := Lib.hid (((Grow.refl wr).alloc _).trans hb3)
      clear hS3 hb3 hO3
      go_wp2_with (first | (at_builtin; refine wpList_appc (c := fun _ => none) (base := w.heap.size) (l := E) (m := [er]) ei_errno rfl one_Tint (by decide) rfl (.tmp 28) (.tmp 30) rfl rfl ?own rfl (Src.of_new (T := Ty.int) (cs := #[.int .i64 er]) ⟨rfl, HI.out⟩ _ _ ?d1) ?d2 ?d3 ?_))
      case own => exact (HE.out.grow HB3.out).grow ((Grow.refl _).alloc _)
      case d1 => simp
      case d2 => have := HM.out; have := HEL.out; simp; omega
      case d3 => have := (HB.out.trans HB3.out).size; simp; omega
      intro a9 c9 w9 ho9 hg9 hb9
      have HO9 := Lib.hid ho9
      have HG9 := Lib.hid (grow_by (w0 := w) ((HB.out.trans HB3.out).alloc _) hg9 (fun q hq => (HE.out.lt q hq).1))
      have HS9 : Hid (OwnC Ty.sm (fun _ => none) w9 w.heap.size 25 (.slice a3 S'.length c3) S') := Lib.hid ((HS3.out.1.grow ((Grow.refl _).alloc _)).kept hg9 (by
        cases hq : (Value.slice a3 S'.length c3).ownBlock with
        | none => exact .inl rfl
        | some q => exact .inr (fun e => HS3.out.2 q hq e.symm)))
      have HN9 : Hid (∀ g, (Value.slice a3 S'.length c3).ownBlock = some g → (Value.slice a9 (E.length + [er].length) c9).ownBlock ≠ some g) := Lib.hid (fun q hq e => by
        change (Value.slice a9 (E.length + 1) c9).ownBlock = some q at e
        rcases hb9 with h | ⟨g2, h, hg2⟩
        · rw [h] at e; exact HS3.out.2 q hq e
        · rw [h] at e
          obtain rfl := Option.some.inj e
          have := (HS3.out.1.lt _ hq).2
          (try simp at hg2); omega)
      clear ho9 hg9 hb9
      go_wp2
      go_roundw
      case rel => exact ⟨k + 1, by omega, by go_num, HG9.out, by rw [HSN.out]; exact HS9.out, HN9.out, by rw [HSN.out]; exact HO9.out⟩
      case measure => simp [intOf]; omega
    · rw [List.take_of_length_le (by omega)] at hS hE ⊢
      clear hOS hne
      have HS := Lib.hid hS
      have HE := Lib.hid (hE.sl (by decide) (fun a v e => by cases e))
      clear hel hS hE
      go_wp2
      refine bodyPost_ret (v := .tuple #[.slice aS (allE (List.replicate n ⟨0, 0, 0, 0⟩) D).1.length cS, .slice aE (allE (List.replicate n ⟨0, 0, 0, 0⟩) D).2.length cE]) (by simp [results, Try.results95, go_sem]) rfl ?_
      exact ⟨_, _, rfl, HS.out, HE.out, hb⟩
set_option maxRecDepth 100000 in
set_option maxHeartbeats 2000000 in
theorem ref_all {v : Value} {n : Nat} {D : List Rd} (w : World) (hn : 1 ≤ n ∧ n ≤ 3) (hv : Sl Ty.rd w.cell? v D) (hD : ∀ r ∈ D, wrongE r.parts n = 0) (hm : D.length * 8 ≤ 140737488355328) :
    Calls Try.prog 96 #[.int .i64 n, v] w fun e w' => ∃ v1 v2, e = .returned (.tuple #[v1, v2]) ∧ Sms w'.cell? v1 (allE (List.replicate n ⟨0, 0, 0, 0⟩) D).1 ∧ Sl Ty.int w'.cell? v2 (allE (List.replicate n ⟨0, 0, 0, 0⟩) D).2 ∧ Grow w w' := by
  obtain ⟨cs, hmk, hms⟩ := make_sums hn
  have HMS := Lib.hid (hms w)
  obtain ⟨a, cap, rfl, h1, h2, -, hel⟩ := hv
  unfold maxLen at h2
  have HN := Lib.hid hn
  have HM := Lib.hid hm
  clear hms hm
  go_enter Try.func96, Try.ntmps96
  go_wp2
  clear hmk
  go_loopw [6, 7, 10, 11, 16] (fun sS sE _ _ i wr => ∃ k : Nat, k ≤ D.length ∧ i = .int .i64 k ∧ Grow w wr ∧ OwnC Ty.sm (fun _ => none) wr w.heap.size 25 sS (allE (List.replicate n ⟨0, 0, 0, 0⟩) (D.take k)).1 ∧ (∀ g, sS.ownBlock = some g → sE.ownBlock ≠ some g) ∧ OwnC Ty.int (fun _ => none) wr w.heap.size 40 sE (allE (List.replicate n ⟨0, 0, 0, 0⟩) (D.take k)).2) (fun _ _ _ _ i _ => D.length - (intOf i).toNat)
  case atStart => exact ⟨0, by omega, rfl, (Grow.refl w).alloc _, HMS.out, fun g _ e => by simp [Value.ownBlock] at e, OwnC.nil _ _ _ _ _⟩
  case round =>
    obtain ⟨k, hk', rfl, hb, hOS, hne, hE⟩ := hrel
    have hS := hOS.sl (by decide) (fun a v e => by cases e)
    obtain ⟨aS, cS, rfl⟩ := hOS.form
    obtain ⟨aE, cE, rfl⟩ := hE.form
    by_cases hlt : k < D.length
    · obtain ⟨b, o, vp, rfl, c0, c1, i0, hP⟩ := Rds.at_ hel k hlt
      obtain ⟨ap, cp, rfl, -⟩ := id hP
      have hw := hD D[k] (List.getElem_mem hlt)
      have HSN := Lib.hid (all_snoc (List.replicate n ⟨0, 0, 0, 0⟩) (D.take k) D[k])
      rw [← List.take_succ_eq_append_getElem hlt] at HSN
      have hel2 : (allE (List.replicate n ⟨0, 0, 0, 0⟩) (D.take k)).2.length = k := by rw [all_len]; simp; omega
      have HEL := Lib.hid hel2
      clear hel2
      have hsl : (allE (List.replicate n ⟨0, 0, 0, 0⟩) (D.take k)).1.length = n := by rw [all_len1]; simp
      replace c0 := hb.sub _ _ c0
      replace c1 := hb.sub _ _ c1
      have h0 := wrong_ok hw
      have HCA := Lib.hid (fun (W : World) (hW : Grow wr W) => ref_doAll W (hS.mono hW.sub) (hP.mono (hb.trans hW).sub) (wrong_keys hw) (by omega) (by rw [hsl]; have := HN.out; omega))
      have HI := Lib.hid (doAll_i64 (allE (List.replicate n ⟨0, 0, 0, 0⟩) (D.take k)).1 D[k].parts)
      have HE := Lib.hid hE
      have HOS := Lib.hid hOS
      have HNE := Lib.hid hne
      have HB := Lib.hid hb
      clear hel hS hE hP hw h0 hD hb i0 hsl hOS hne
      generalize (allE (List.replicate n ⟨0, 0, 0, 0⟩) (D.take k)).1 = S at *
      generalize (allE (List.replicate n ⟨0, 0, 0, 0⟩) (D.take k)).2 = E at *
      generalize D[k] = r at *
      generalize (doAllE S r.parts).1 = S' at *
      generalize (doAllE S r.parts).2 = er at *
      go_wp2_with fail
      refine (HCA.out _ ((Grow.refl wr).alloc _)).mono ?_
      rintro e w3 ⟨v3, rfl, hS3, hb3, hO3⟩
      obtain ⟨a3, c3, rfl, -⟩ := id hS3
      have HS3 : Hid (OwnC Ty.sm (fun _ => none) w3 w.heap.size 25 (.slice a3 S'.length c3) S' ∧ ∀ g, (Value.slice a3 S'.length c3).ownBlock = some g → (Value.slice aE E.length cE).ownBlock ≠ some g) := Lib.hid (by
        rcases hO3 with hO3 | ⟨e1, e2⟩
        · exact ⟨hO3.base (by have := HB.out.size; simp; omega), fun g hg e => by have := (hO3.lt g hg).1; have := (HE.out.lt g e).2; simp at *; omega⟩
        · rw [e1, e2]
          exact ⟨HOS.out.grow (((Grow.refl wr).alloc _).trans hb3), HNE.out⟩)
      have HB3 := Lib.hid (((Grow.refl wr).alloc _).trans hb3)
      clear hS3 hb3 hO3
      go_wp2_with (first | (at_builtin; refine wpList_appc (c := fun _ => none) (base := w.heap.size) (l := E) (m := [er]) ei_errno rfl one_Tint (by decide) rfl (.tmp 28) (.tmp 30) rfl rfl ?own rfl (Src.of_new (T := Ty.int) (cs := #[.int .i64 er]) ⟨rfl, HI.out⟩ _ _ ?d1) ?d2 ?d3 ?_))
      case own => exact (HE.out.grow HB3.out).grow ((Grow.refl _).alloc _)
      case d1 => simp
      case d2 => have := HM.out; have := HEL.out; simp; omega
      case d3 => have := (HB.out.trans HB3.out).size; simp; omega
      intro a9 c9 w9 ho9 hg9 hb9
      have HO9 := Lib.hid ho9
      have HG9 := Lib.hid (grow_by (w0 := w) ((HB.out.trans HB3.out).alloc _) hg9 (fun q hq => (HE.out.lt q hq).1))
      have HS9 : Hid (OwnC Ty.sm (fun _ => none) w9 w.heap.size 25 (.slice a3 S'.length c3) S') := Lib.hid ((HS3.out.1.grow ((Grow.refl _).alloc _)).kept hg9 (by
        cases hq : (Value.slice a3 S'.length c3).ownBlock with
        | none => exact .inl rfl
        | some q => exact .inr (fun e => HS3.out.2 q hq e.symm)))
      have HN9 : Hid (∀ g, (Value.slice a3 S'.length c3).ownBlock = some g → (Value.slice a9 (E.length + [er].length) c9).ownBlock ≠ some g) := Lib.hid (fun q hq e => by
        change (Value.slice a9 (E.length + 1) c9).ownBlock = some q at e
        rcases hb9 with h | ⟨g2, h, hg2⟩
        · rw [h] at e; exact HS3.out.2 q hq e
        · rw [h] at e
          obtain rfl := Option.some.inj e
          have := (HS3.out.1.lt _ hq).2
          (try simp at hg2); omega)
      clear ho9 hg9 hb9
      go_wp2
      go_roundw
      case rel => exact ⟨k + 1, by omega, by go_num, HG9.out, by rw [HSN.out]; exact HS9.out, HN9.out, by rw [HSN.out]; exact HO9.out⟩
      case measure => simp [intOf]; omega
    · rw [List.take_of_length_le (by omega)] at hS hE ⊢
      clear hOS hne
      have HS := Lib.hid hS
      have HE := Lib.hid (hE.sl (by decide) (fun a v e => by cases e))
      clear hel hS hE
      go_wp2
      refine bodyPost_ret (v := .tuple #[.slice aS (allE (List.replicate n ⟨0, 0, 0, 0⟩) D).1.length cS, .slice aE (allE (List.replicate n ⟨0, 0, 0, 0⟩) D).2.length cE]) (by simp [results, Try.results96, go_sem]) rfl ?_
      exact ⟨_, _, rfl, HS.out, HE.out, hb⟩
end Go.Proofs.Ytgbhpghgohggcaa

/- Plain: ModelApart's and ModelEven's laws. -/
namespace Go.Proofs.Ytgbhpghgohggcaa
open Go.RowKit
theorem errGo_congr {P : List Pt} : ∀ {a b : List Sm} {k0 : Nat}, a.length = b.length → (∀ (k : Nat) s t, a[k]? = some s → b[k]? = some t → fitsE s.get (ofL P ((k0 + k : Nat) : Int)) = fitsE t.get (ofL P ((k0 + k : Nat) : Int))) → errGo P k0 a = errGo P k0 b
  | [], [], _, _, _ => rfl
  | [], _ :: _, _, h, _ => by simp at h
  | _ :: _, [], _, h, _ => by simp at h
  | s :: a, t :: b, k0, h, hk => by
    have h0 := hk 0 s t rfl rfl
    rw [Nat.add_zero] at h0
    unfold errGo
    rw [h0, errGo_congr (a := a) (b := b) (k0 := k0 + 1) (by simpa using h) fun k x y hx hy => by
      have := hk (k + 1) x y (by simpa using hx) (by simpa using hy)
      rwa [show k0 + (k + 1) = k0 + 1 + k by omega] at this]
theorem doAll_len (s : List Sm) (P : List Pt) : (doAllE s P).1.length = s.length := by
  unfold doAllE
  split
  · exact putGo_len _ _
  · rfl
/-- two deeds' parts have no key in common -/
def ApartP (a b : List Pt) : Prop := ∀ p ∈ a, ∀ q ∈ b, ¬ (p.h = q.h ∧ p.k = q.k)
theorem ApartP.symm {a b : List Pt} (h : ApartP a b) : ApartP b a := fun p hp q hq e => h q hq p hp ⟨e.1.symm, e.2.symm⟩
theorem apart_of {a b : List Pt} (h : ApartP a b) (k : Int) : ∀ p ∈ ofL a k, ∀ q ∈ ofL b k, q.k ≠ p.k := by
  intro p hp q hq e
  unfold ofL at hp hq
  rw [List.mem_filter] at hp hq
  exact h p hp.1 q hq.1 ⟨by have h1 := hp.2; have h2 := hq.2; simp at h1 h2; rw [h1, h2], e.symm⟩
theorem err_apart {s : List Sm} {a b : List Pt} {n : Int} (hwa : wrongE a n = 0) (hwb : wrongE b n = 0) (h : ApartP a b) : errGo a 0 (doAllE s b).1 = errGo a 0 s := by
  unfold doAllE
  split
  · refine errGo_congr (putGo_len _ _) fun k x y hx hy => ?_
    rw [putGo_get, hy] at hx
    obtain rfl := Option.some.inj hx
    refine fits_congr fun p hp => ?_
    have hk := ofL_ok hwa _ p hp
    rw [doP_get _ _ (ofL_ok hwb _) p.k hk.1 hk.2]
    exact keyFold_none _ (apart_of h _ p hp)
  · rfl
theorem doP_comm {A B : List Pt} {s : Sm} (ha : KeysOk A) (hb : KeysOk B) (h : ∀ p ∈ A, ∀ q ∈ B, q.k ≠ p.k) : doP (doP s A) B = doP (doP s B) A :=
  Sm.ext_get fun j h0 h1 => by
    rw [doP_get _ _ hb j h0 h1, doP_get _ _ ha j h0 h1, doP_get _ _ ha j h0 h1, doP_get _ _ hb j h0 h1]
    by_cases e : ∃ p ∈ A, p.k = j
    · obtain ⟨p, hp, rfl⟩ := e
      rw [keyFold_none _ (h p hp), keyFold_none _ (h p hp)]
    · rw [keyFold_none (l := A) _ fun p hp e' => e ⟨p, hp, e'⟩, keyFold_none (l := A) _ fun p hp e' => e ⟨p, hp, e'⟩]
theorem apart_law {s : List Sm} {a b : List Pt} {n : Int} (hwa : wrongE a n = 0) (hwb : wrongE b n = 0) (h : ApartP a b) :
    (doAllE (doAllE s a).1 b).1 = (doAllE (doAllE s b).1 a).1 ∧ (doAllE s a).2 = (doAllE (doAllE s b).1 a).2 ∧ (doAllE (doAllE s a).1 b).2 = (doAllE s b).2 := by
  have e1 := err_apart (s := s) hwa hwb h
  have e2 := err_apart (s := s) hwb hwa h.symm
  have u : ∀ t P, doAllE t P = if errGo P 0 t = 0 then (putGo P 0 t, 0) else (t, errGo P 0 t) := fun _ _ => rfl
  rw [u (doAllE s a).1 b, u (doAllE s b).1 a, e1, e2]
  by_cases ha : errGo a 0 s = 0 <;> by_cases hb : errGo b 0 s = 0
  · rw [if_pos hb, if_pos ha, u s a, u s b, if_pos ha, if_pos hb]
    refine ⟨List.ext_getElem? fun k => ?_, rfl, rfl⟩
    simp only [putGo_get]
    cases s[k]? with
    | none => rfl
    | some x =>
      simp only [Option.map_some]
      rw [doP_comm (ofL_ok hwa _) (ofL_ok hwb _) (apart_of h _)]
  · rw [if_neg hb, if_pos ha, u s a, u s b, if_pos ha, if_neg hb]
    exact ⟨rfl, rfl, rfl⟩
  · rw [if_pos hb, if_neg ha, u s a, u s b, if_neg ha, if_pos hb]
    exact ⟨rfl, rfl, rfl⟩
  · rw [if_neg hb, if_neg ha, u s a, u s b, if_neg ha, if_neg hb]
    exact ⟨rfl, rfl, rfl⟩
def totalE : List Sm → Int
  | [] => 0
  | s :: l => smSum s + totalE l
theorem errGo_all {P : List Pt} : ∀ {l : List Sm} {k0 : Nat}, errGo P k0 l = 0 → ∀ (k : Nat) s, l[k]? = some s → fitsE s.get (ofL P ((k0 + k : Nat) : Int)) = 0
  | [], _, _, k, s, h => by simp at h
  | x :: l, k0, e, k, s, h => by
    unfold errGo at e
    split at e
    · rename_i hf
      cases k with
      | zero =>
        simp at h
        subst h
        exact hf
      | succ k =>
        have := errGo_all (l := l) (k0 := k0 + 1) e k s (by simpa using h)
        rwa [show k0 + 1 + k = k0 + (k + 1) by omega] at this
    · rename_i hf
      exact absurd e hf
theorem smSum_get (s : Sm) : smSum s = s.get 0 + s.get 1 + s.get 2 + s.get 3 := rfl
theorem put_sum {P : List Pt} {n : Int} (hw : wrongE P n = 0) {s : Sm} (hs : rightS s = true) (k : Int) : smSum (doP s (ofL P k)) = smSum s + (amt k 0 P + amt k 1 P + amt k 2 P + amt k 3 P) := by
  rw [smSum_get, smSum_get, doP_sum hw hs k (by omega) (by omega), doP_sum hw hs k (by omega) (by omega), doP_sum hw hs k (by omega) (by omega), doP_sum hw hs k (by omega) (by omega)]
  omega
theorem amt_far {P : List Pt} {n : Int} (hw : wrongE P n = 0) {k : Int} (h : n ≤ k) (q : Int) : amt k q P = 0 := by
  refine amt_none ?_
  cases hh : has k q P with
  | false => rfl
  | true =>
    obtain ⟨p, hp, a, b⟩ := has_mem.1 hh
    have := (wrong_ok hw).2.2.1 p hp
    omega
theorem put_total {P : List Pt} {s : List Sm} (hw : wrongE P s.length = 0) (hs : ∀ x ∈ s, rightS x = true) (h1 : 1 ≤ s.length) (h3 : s.length ≤ 3) : totalE (putGo P 0 s) = totalE s + psum P := by
  obtain ⟨-, -, hb, hn⟩ := wrong_ok hw
  rw [← S12_amt hn fun p hp => by have := hb p hp; omega]
  have z : ∀ k : Int, (s.length : Int) ≤ k → ∀ q, amt k q P = 0 := fun k h q => amt_far hw h q
  simp only [S12]
  match s, h1, h3 with
  | [x], _, _ =>
    have p0 := put_sum hw (hs x (by simp)) 0
    simp only [List.length_cons, List.length_nil] at z
    simp only [putGo, totalE]
    rw [z 1 (by omega), z 1 (by omega), z 1 (by omega), z 1 (by omega), z 2 (by omega), z 2 (by omega), z 2 (by omega), z 2 (by omega)]
    push_cast
    omega
  | [x, y], _, _ =>
    have p0 := put_sum hw (hs x (by simp)) 0
    have p1 := put_sum hw (hs y (by simp)) 1
    simp only [List.length_cons, List.length_nil] at z
    simp only [putGo, totalE]
    rw [z 2 (by omega), z 2 (by omega), z 2 (by omega), z 2 (by omega)]
    push_cast at *
    omega
  | [x, y, t], _, _ =>
    have p0 := put_sum hw (hs x (by simp)) 0
    have p1 := put_sum hw (hs y (by simp)) 1
    have p2 := put_sum hw (hs t (by simp)) 2
    simp only [putGo, totalE]
    push_cast at *
    omega
theorem amt_at : ∀ {P : List Pt}, (P.map fun p => (p.h, p.k)).Nodup → ∀ p ∈ P, amt p.h p.k P = p.n
  | [], _, p, h => by simp at h
  | x :: P, hn, p, h => by
    rw [amt_cons hn]
    have hn' := hn
    rw [List.map_cons, List.nodup_cons] at hn'
    rcases List.mem_cons.1 h with rfl | h
    · rw [if_pos ⟨rfl, rfl⟩]
      have h0 : has p.h p.k P = false := by
        cases hh : has p.h p.k P with
        | false => rfl
        | true =>
          obtain ⟨r, hr, a, b⟩ := has_mem.1 hh
          exact absurd (List.mem_map.2 ⟨r, hr, by rw [a, b]⟩) hn'.1
      rw [amt_none h0]; omega
    · rw [if_neg (fun e => hn'.1 (List.mem_map.2 ⟨p, h, by rw [e.1, e.2]⟩)), amt_at hn'.2 p h]; omega
theorem even_law {s : List Sm} {P : List Pt} (hw : wrongE P s.length = 0) (hs : ∀ x ∈ s, rightS x = true) (h1 : 1 ≤ s.length) (h3 : s.length ≤ 3) :
    ((doAllE s P).2 ≠ 0 → (doAllE s P).1 = s) ∧ ((doAllE s P).2 = 0 → totalE (doAllE s P).1 = totalE s + psum P ∧
      ∀ p ∈ P, ∃ x y, s[p.h.toNat]? = some x ∧ (doAllE s P).1[p.h.toNat]? = some y ∧ y.get p.k = x.get p.k + p.n ∧ 0 ≤ y.get p.k) := by
  unfold doAllE
  by_cases he : errGo P 0 s = 0
  · rw [if_pos he]
    refine ⟨fun h => absurd rfl h, fun _ => ⟨put_total hw hs h1 h3, fun p hp => ?_⟩⟩
    obtain ⟨-, -, hb, hn⟩ := wrong_ok hw
    have hp' := hb p hp
    have hlt : p.h.toNat < s.length := by omega
    refine ⟨s[p.h.toNat], doP s[p.h.toNat] (ofL P ((0 + p.h.toNat : Nat) : Int)), List.getElem?_eq_getElem hlt, ?_, ?_⟩
    · rw [putGo_get, List.getElem?_eq_getElem hlt]; rfl
    · have hr := hs _ (List.getElem_mem hlt)
      have hf := errGo_all he _ _ (List.getElem?_eq_getElem hlt)
      rw [Nat.zero_add, show ((p.h.toNat : Nat) : Int) = p.h by omega] at hf ⊢
      have := (fits_sum hw hr p.h).1 hf p.k hp'.2.2.1 hp'.2.2.2.1
      rw [doP_sum hw hr p.h hp'.2.2.1 hp'.2.2.2.1, amt_at hn p hp]
      rw [amt_at hn p hp] at this
      exact ⟨rfl, this.1⟩
  · rw [if_neg he]
    exact ⟨fun _ => rfl, fun h => absurd h he⟩
end Go.Proofs.Ytgbhpghgohggcaa

/- Walks: model.Total. -/
namespace Go.Proofs.Ytgbhpghgohggcaa
open Go.RowKit
theorem idx_sm (a b c d : Int) (w : World) : (Instr.index 25 (.agg #[.int .i64 a, .int .i64 b, .int .i64 c, .int .i64 d]) (.int .i64 0)).run Try.prog w = .ok (.int .i64 a) w ∧ (Instr.index 25 (.agg #[.int .i64 a, .int .i64 b, .int .i64 c, .int .i64 d]) (.int .i64 1)).run Try.prog w = .ok (.int .i64 b) w ∧
    (Instr.index 25 (.agg #[.int .i64 a, .int .i64 b, .int .i64 c, .int .i64 d]) (.int .i64 2)).run Try.prog w = .ok (.int .i64 c) w ∧ (Instr.index 25 (.agg #[.int .i64 a, .int .i64 b, .int .i64 c, .int .i64 d]) (.int .i64 3)).run Try.prog w = .ok (.int .i64 d) w :=
  ⟨by kernel_rfl, by kernel_rfl, by kernel_rfl, by kernel_rfl⟩
theorem total_snoc : ∀ (l : List Sm) (s : Sm), totalE (l ++ [s]) = totalE l + smSum s
  | [], s => by simp [totalE]
  | x :: l, s => by simp only [List.cons_append, totalE, total_snoc l s]; omega
theorem total_bound : ∀ {l : List Sm}, (∀ s ∈ l, rightS s = true) → 0 ≤ totalE l ∧ totalE l ≤ 4194304 * l.length
  | [], _ => by simp [totalE]
  | x :: l, h => by
    have h1 := total_bound fun s hs => h s (List.mem_cons_of_mem _ hs)
    have h2 := (rightS_iff x).1 (h x List.mem_cons_self)
    have a0 := h2 0 (by omega)
    have a1 := h2 1 (by omega)
    have a2 := h2 2 (by omega)
    have a3 := h2 3 (by omega)
    simp only [Sm.get, S4] at a0 a1 a2 a3
    simp at a0 a1 a2 a3
    simp only [totalE, smSum, List.length_cons]
    omega
set_option maxRecDepth 100000 in
set_option maxHeartbeats 2000000 in
theorem model_total {v : Value} {S : List Sm} (w : World) (hv : Sms w.cell? v S) (hr : ∀ s ∈ S, rightS s = true) (hl : S.length ≤ 3) :
    Calls Try.prog 94 #[v] w fun e w' => e = .returned (.int .i64 (totalE S)) ∧ Grow w w' := by
  have HR := Lib.hid hr
  obtain ⟨a, cap, rfl, h1, h2, -, hel⟩ := hv
  unfold maxLen at h2
  clear hr
  go_enter Try.func94, Try.ntmps94
  go_wp2
  go_loopw [3, 10] (fun t i wr => ∃ k : Nat, k ≤ S.length ∧ i = .int .i64 k ∧ t = .int .i64 (totalE (S.take k)) ∧ Grow w wr) (fun _ i _ => S.length - (intOf i).toNat)
  case atStart => exact ⟨0, by omega, rfl, rfl, Grow.refl _⟩
  case round =>
    obtain ⟨k, hk', rfl, rfl, hb⟩ := hrel
    by_cases hlt : k < S.length
    · obtain ⟨b, o, rfl, c0, c1, c2, c3, -, -, -, -⟩ := smAt hel k hlt
      replace c0 := hb.sub _ _ c0
      replace c1 := hb.sub _ _ c1
      replace c2 := hb.sub _ _ c2
      replace c3 := hb.sub _ _ c3
      have HTS := Lib.hid (show totalE (S.take (k + 1)) = totalE (S.take k) + smSum S[k] by rw [List.take_succ_eq_append_getElem hlt, total_snoc])
      have hbd := total_bound (l := S.take k) fun s hs => HR.out s (List.mem_of_mem_take hs)
      rw [List.length_take, Nat.min_eq_left (by omega)] at hbd
      have hs := (rightS_iff S[k]).1 (HR.out _ (List.getElem_mem hlt))
      have a0 := hs 0 (by omega)
      have a1 := hs 1 (by omega)
      have a2 := hs 2 (by omega)
      have a3 := hs 3 (by omega)
      simp only [Sm.get, S4] at a0 a1 a2 a3
      simp at a0 a1 a2 a3
      clear hel hs
      generalize totalE (S.take k) = acc at *
      generalize S[k] = s at *
      obtain ⟨sa, sb, sc, sd⟩ := s
      simp only at c0 c1 c2 c3 a0 a1 a2 a3
      have hix := idx_sm sa sb sc sd
      have h0 := fun w => (hix w).1
      have h1x := fun w => (hix w).2.1
      have h2x := fun w => (hix w).2.2.1
      have h3x := fun w => (hix w).2.2.2
      clear hix
      have HB : Hid (Grow w wr) := Lib.hid hb
      obtain ⟨wo, rfl⟩ : ∃ x : World, x = wr := ⟨_, rfl⟩
      go_wp2
      clear c0 c1 c2 c3
      go_loopw [3, 15] (fun t i wx => ∃ j : Nat, j ≤ 4 ∧ i = .int .i64 j ∧ t = .int .i64 (acc + (if j = 0 then 0 else if j = 1 then sa else if j = 2 then sa + sb else if j = 3 then sa + sb + sc else sa + sb + sc + sd)) ∧ Grow w wx) (fun _ i _ => 4 - (intOf i).toNat)
      case atStart => exact ⟨0, by omega, rfl, by simp, HB.out.alloc _⟩
      case round =>
        obtain ⟨j, hj', rfl, rfl, hbx⟩ := hrel
        by_cases hj4 : j < 4
        · have hj : j = 0 ∨ j = 1 ∨ j = 2 ∨ j = 3 := by omega
          rcases hj with rfl | rfl | rfl | rfl
          · simp only [if_true]
            go_wp2
            go_roundw
            case rel => exact ⟨1, by omega, by go_num, by simp, hbx⟩
            case measure => simp [intOf]
          · simp only [if_true, if_neg (show ¬ (1 : Nat) = 0 by omega)]
            go_wp2
            go_roundw
            case rel => exact ⟨2, by omega, by go_num, by simp; omega, hbx⟩
            case measure => simp [intOf]
          · simp only [if_true, if_neg (show ¬ (2 : Nat) = 0 by omega), if_neg (show ¬ (2 : Nat) = 1 by omega)]
            go_wp2
            go_roundw
            case rel => exact ⟨3, by omega, by go_num, by simp; omega, hbx⟩
            case measure => simp [intOf]
          · simp only [if_true, if_neg (show ¬ (3 : Nat) = 0 by omega), if_neg (show ¬ (3 : Nat) = 1 by omega), if_neg (show ¬ (3 : Nat) = 2 by omega)]
            go_wp2
            go_roundw
            case rel => exact ⟨4, by omega, by go_num, by simp; omega, hbx⟩
            case measure => simp [intOf]
        · obtain rfl : j = 4 := by omega
          go_wp2
          go_roundw
          case rel => exact ⟨k + 1, by omega, by go_num, by rw [HTS.out]; simp [smSum] <;> omega, hbx⟩
          case measure => simp [intOf]; omega
    · rw [List.take_of_length_le (by omega)]
      clear hel
      go_wp2
      go_ret
      exact ⟨rfl, hb⟩
end Go.Proofs.Ytgbhpghgohggcaa

/- Walks: what chapter 4's laws ask of sums and parts. -/
namespace Go.Proofs.Ytgbhpghgohggcaa
open Go.RowKit
def right4E (S : List Sm) (P : List Pt) : Bool := S.all rightS && decide (1 ≤ S.length) && decide (S.length ≤ 3) && decide (wrongE P S.length = 0)
theorem right4_ok {S : List Sm} {P : List Pt} (h : right4E S P = true) : (∀ s ∈ S, rightS s = true) ∧ 1 ≤ S.length ∧ S.length ≤ 3 ∧ wrongE P S.length = 0 := by
  unfold right4E at h
  simp only [Bool.and_eq_true, decide_eq_true_eq, List.all_eq_true] at h
  exact ⟨h.1.1.1, h.1.1.2, h.1.2, h.2⟩
theorem doAll_right {S : List Sm} {P : List Pt} (hw : wrongE P S.length = 0) (hs : ∀ x ∈ S, rightS x = true) : ∀ x ∈ (doAllE S P).1, rightS x = true := by
  intro x hx
  unfold doAllE at hx
  by_cases he : errGo P 0 S = 0
  · rw [if_pos he] at hx
    obtain ⟨k, hk⟩ := List.mem_iff_getElem?.1 hx
    rw [putGo_get] at hk
    cases hS : S[k]? with
    | none => rw [hS] at hk; simp at hk
    | some s =>
      rw [hS] at hk
      simp only [Option.map_some, Option.some.injEq, Nat.zero_add] at hk
      have hr := hs s (List.mem_of_getElem? hS)
      have hf := errGo_all he k s hS
      rw [Nat.zero_add] at hf
      rw [← hk]
      refine rightS_get.2 fun q a b => ?_
      rw [doP_sum hw hr k a b]
      exact (fits_sum hw hr k).1 hf q a b
  · rw [if_neg he] at hx
    exact hs x hx
set_option maxRecDepth 100000 in
set_option maxHeartbeats 1000000 in
theorem law4_right {v vp : Value} {S : List Sm} {P : List Pt} (w : World) (hv : Sms w.cell? v S) (hp : Pts w.cell? vp P) :
    Calls Try.prog 91 #[v, vp] w fun e w' => e = .returned (.bool (right4E S P)) ∧ Grow w w' := by
  have HWP := Lib.hid (fun (W : World) (hW : Grow w W) => ref_wrongParts (h := S.length) W (hp.mono hW.sub))
  obtain ⟨ap, cp, rfl, -⟩ := hp
  obtain ⟨a, cap, rfl, h1, h2, -, hel⟩ := hv
  unfold maxLen at h2
  go_enter Try.func91, Try.ntmps91
  go_wp2
  go_loopw [4, 9] (fun _ i wr => ∃ k : Nat, k ≤ S.length ∧ i = .int .i64 k ∧ Grow w wr ∧ ∀ s ∈ S.take k, rightS s = true) (fun _ i _ => S.length - (intOf i).toNat)
  case atStart => exact ⟨0, by omega, rfl, Grow.refl _, by simp⟩
  case round =>
    obtain ⟨k, hk', rfl, hb, hall⟩ := hrel
    by_cases hlt : k < S.length
    · obtain ⟨b, o, rfl, c0, c1, c2, c3, -, -, -, -⟩ := smAt hel k hlt
      replace c0 := hb.sub _ _ c0
      replace c1 := hb.sub _ _ c1
      replace c2 := hb.sub _ _ c2
      replace c3 := hb.sub _ _ c3
      have htk := List.take_succ_eq_append_getElem hlt
      have hmem : S[k] ∈ S := List.getElem_mem hlt
      have HAL := Lib.hid (fun (h : rightS S[k] = true) => (show ∀ s ∈ S.take (k + 1), rightS s = true by
        rw [htk]; intro s hs
        rcases List.mem_append.1 hs with hs | hs
        · exact hall s hs
        · rw [List.mem_singleton.1 hs]; exact h))
      have HNO := Lib.hid (fun (h : rightS S[k] = false) => (show right4E S P = false by
        have : S.all rightS = false := by rw [List.all_eq_false]; exact ⟨_, hmem, by rw [h]; simp⟩
        unfold right4E; rw [this]; rfl))
      have HRS := Lib.hid (fun (W : World) => ref_rightSums W S[k])
      have HB := Lib.hid hb
      clear hel htk hmem hall hb
      generalize S[k] = s at *
      go_wp2_with fail
      refine (HRS.out _).mono ?_
      cases hr : rightS s with
      | true =>
        rintro e w3 ⟨rfl, hb3⟩
        have HB3 := Lib.hid ((HB.out.alloc _).trans hb3)
        have HA := Lib.hid (HAL.out hr)
        clear hb3 hr
        go_wp2
        go_roundw
        case rel => exact ⟨k + 1, by omega, by go_num, HB3.out, HA.out⟩
        case measure => simp [intOf]; omega
      | false =>
        rintro e w3 ⟨rfl, hb3⟩
        have HB3 := Lib.hid ((HB.out.alloc _).trans hb3)
        have HA := Lib.hid (HNO.out hr)
        clear hb3 hr
        go_wp2
        go_ret
        exact ⟨ret_bool HA.out.symm, HB3.out⟩
    · rw [List.take_of_length_le (by omega)] at hall
      have hA : S.all rightS = true := by rw [List.all_eq_true]; exact hall
      clear hel
      by_cases g1 : 1 ≤ S.length
      · by_cases g3 : S.length ≤ 3
        · have HE := Lib.hid (show right4E S P = (wrongE P S.length == 0) by
            unfold right4E; rw [hA, decide_eq_true g1, decide_eq_true g3]
            rw [Bool.eq_iff_iff]; simp)
          have HB := Lib.hid hb
          clear hA hall hb
          go_wp2_with fail
          refine (HWP.out _ HB.out).mono ?_
          rintro e w3 ⟨rfl, hb3⟩
          have HB3 := Lib.hid (HB.out.trans hb3)
          clear hb3
          generalize wrongE P S.length = we at *
          go_wp2
          go_ret
          exact ⟨ret_bool HE.out.symm, HB3.out⟩
        · have HE := Lib.hid (show right4E S P = false by
            unfold right4E; rw [decide_eq_false g3]; simp)
          clear hA hall
          have g4 : 3 < S.length := by omega
          go_wp2
          go_ret
          exact ⟨ret_bool HE.out.symm, hb⟩
      · have HE := Lib.hid (show right4E S P = false by
          unfold right4E; rw [decide_eq_false g1]; simp)
        have g0 : S.length = 0 := by omega
        clear hA hall
        have g4 : S.length < 1 := by omega
        go_wp2
        go_ret
        exact ⟨ret_bool HE.out.symm, hb⟩
end Go.Proofs.Ytgbhpghgohggcaa

/- Literal rows: what has just been laid whole reads as a list. -/
namespace Go.Proofs.Ytgbhpghgohggcaa
open Go.RowKit
def All2 {α β : Type} (R : α → β → Prop) : List α → List β → Prop
  | [], [] => True
  | a :: l, b :: m => R a b ∧ All2 R l m
  | _, _ => False
theorem All2.len {α β : Type} {R : α → β → Prop} : ∀ {l : List α} {m : List β}, All2 R l m → l.length = m.length
  | [], [], _ => rfl
  | _ :: _, _ :: _, h => by rw [List.length_cons, List.length_cons, All2.len h.2]
  | [], _ :: _, h => h.elim
  | _ :: _, [], h => h.elim
theorem All2.get {α β : Type} {R : α → β → Prop} : ∀ {l : List α} {m : List β}, All2 R l m → ∀ (i : Nat) (a : α) (b : β), l[i]? = some a → m[i]? = some b → R a b
  | [], [], _, i, a, b, h1, _ => by simp at h1
  | _ :: _, _ :: _, h, 0, a, b, h1, h2 => by
    simp only [List.getElem?_cons_zero, Option.some.injEq] at h1 h2
    subst h1 h2
    exact h.1
  | _ :: _, _ :: _, h, i + 1, a, b, h1, h2 => All2.get h.2 i a b (by simpa using h1) (by simpa using h2)
  | [], _ :: _, h, _, _, _, _, _ => h.elim
  | _ :: _, [], h, _, _, _, _, _ => h.elim
theorem OwnC.lit {α : Type} {T : Ty α} {c : CM} {base e : Nat} (w : World) {cs : Array Value} (css : List (List Value)) {l : List α} {g n : Nat} (hg : g = w.heap.size) (hn : n = l.length) (hb : base ≤ w.heap.size) (hm : l.length ≤ maxLen) (hcs : cs.toList = css.flatten) (hR : All2 (T.R c) css l) : OwnC T c (w.alloc (.cells cs e)) base e (.slice (some ⟨g, 0, none⟩) n n) l := by
  subst hg hn
  have hl := hR.len
  have h3 := hR.get
  refine ⟨css, ?_, hl, h3⟩
  have h := World.ownsRow_lit (base := base) (e := e) (size := T.size) w cs l.length hb hm (by rw [← Array.length_toList, hcs, flatten_len css (css_len hl h3), hl])
  rw [hcs] at h
  exact h
/-- what has just been laid whole, and what it leads to was there -/
theorem Sl.lit {α : Type} {T : Ty α} {e : Nat} (w : World) {W : World} {cs : Array Value} (css : List (List Value)) {l : List α} {g n : Nat} (h0 : 0 < T.size) (hW : Grow (w.alloc (.cells cs e)) W) (hg : g = w.heap.size) (hn : n = l.length) (hm : l.length ≤ maxLen) (hcs : cs.toList = css.flatten) (hR : All2 (T.R w.cell?) css l) : Sl T W.cell? (.slice (some ⟨g, 0, none⟩) n n) l :=
  ((OwnC.lit (base := w.heap.size) (e := e) w css hg hn (Nat.le_refl _) hm hcs hR).sl h0 ((Grow.refl _).alloc _).sub).mono hW.sub
end Go.Proofs.Ytgbhpghgohggcaa

/- The closed fact that chapter 4's laws ask first, walked. -/
namespace Go.Proofs.Ytgbhpghgohggcaa
open Go.RowKit
def p127 : List Pt := [⟨1, 2, 7⟩]
def p027 : List Pt := [⟨0, 2, -7⟩]
def s2z : List Sm := [⟨0, 0, 0, 0⟩, ⟨0, 0, 0, 0⟩]
def s27 : List Sm := [⟨0, 0, 0, 0⟩, ⟨0, 0, 7, 0⟩]
theorem pts_at (a b c : Int) (ha : I64 a) (hb : I64 b) (hc : I64 c) (w W : World) (t : TypeId) {g : Nat} (hg : g = w.heap.size) (hW : Grow (w.alloc (.cells #[.int .i64 a, .int .i64 b, .int .i64 c] t)) W) : Pts W.cell? (.slice (some ⟨g, 0, none⟩) 1 1) [⟨a, b, c⟩] := by
  subst hg
  exact pts_one a b c ha hb hc w W t hW
set_option maxRecDepth 100000 in
set_option maxHeartbeats 2000000 in
theorem alive4 (w : World) : Calls Try.prog 97 #[] w fun e w' => e = .returned (.bool true) ∧ Grow w w' := by
  obtain ⟨cs, hmk0, hms⟩ := make_sums (n := 2) (by omega)
  have hmk : ∀ w : World, (Instr.makeSlice 98 (.int .i64 2) (.int .i64 2)).run Try.prog w = .ok (.slice (some ⟨w.heap.size, 0, none⟩) 2 2) (w.alloc (.cells cs 25)) := hmk0
  have i0 : I64 0 := by unfold I64; decide
  have i1 : I64 1 := by unfold I64; decide
  have i2 : I64 2 := by unfold I64; decide
  have i7 : I64 7 := by unfold I64; decide
  have im : I64 (-7) := by unfold I64; decide
  have HS0 : Hid (Sms (w.alloc (.cells cs 25)).cell? (.slice (some ⟨w.heap.size, 0, none⟩) 2 2) s2z) := Lib.hid ((hms w).sl (by decide) (fun a v e => by cases e))
  have HP1 := Lib.hid (fun (w : World) => pts_one 1 2 7 i1 i2 i7 w)
  have HPA : Hid (Pts ((w.alloc (.cells cs 25)).alloc (.cells #[.int .i64 1, .int .i64 2, .int .i64 7] 32)).cell? (.slice (some ⟨w.heap.size + 1, 0, none⟩) 1 1) p127) := Lib.hid (pts_at 1 2 7 i1 i2 i7 (w.alloc (.cells cs 25)) _ _ (by simp) (Grow.refl _))
  have HP2 := Lib.hid (fun (w W : World) (t : TypeId) (g : Nat) (hg : g = w.heap.size) => pts_at 0 2 (-7) i0 i2 im w W t hg)
  have HI0 := Lib.hid i0
  have HDO := Lib.hid (fun (vp : Value) (W : World) (hW : Grow (w.alloc (.cells cs 25)) W) (hp : Pts W.cell? vp p127) => model_do W (HS0.out.mono hW.sub) hp (by decide) (by decide) (by decide))
  have HAL := Lib.hid (fun (v : Value) (W : World) (hD : Sl Ty.rd W.cell? v [⟨0, p127⟩, ⟨0, p027⟩]) => model_all (n := 2) W (by omega) hD (by intro r hr; simp at hr; rcases hr with rfl | rfl <;> decide) (by decide))
  have HTO := Lib.hid (fun (v : Value) (W : World) (hv : Sms W.cell? v s27) => model_total W hv (by intro s hs; simp [s27] at hs; rcases hs with rfl | rfl <;> decide) (by decide))
  have e1 : (doAllE s2z p127).2 = 0 := by kernel_rfl
  have e2 : (doAllE s2z p127).1 = s27 := by kernel_rfl
  have e3 : (allE (List.replicate 2 ⟨0, 0, 0, 0⟩) [⟨0, p127⟩, ⟨0, p027⟩]).1 = s27 := by kernel_rfl
  have e4 : (allE (List.replicate 2 ⟨0, 0, 0, 0⟩) [⟨0, p127⟩, ⟨0, p027⟩]).2 = [0, 11] := by kernel_rfl
  have e5 : totalE s27 = 7 := by kernel_rfl
  rw [e1, e2] at HDO
  rw [e3, e4] at HAL
  rw [e5] at HTO
  have HG0 : Hid (Grow w (w.alloc (.cells cs 25))) := Lib.hid ((Grow.refl w).alloc _)
  clear i0 i1 i2 i7 im e1 e2 e3 e4 e5 hms hmk0
  go_enter Try.func97, Try.ntmps97
  go_wp2_with fail
  refine (HDO.out (.slice (some ⟨w.heap.size + 1, 0, none⟩) 1 1) ((w.alloc (.cells cs 25)).alloc (.cells #[.int .i64 1, .int .i64 2, .int .i64 7] 32)) ((Grow.refl _).alloc _) HPA.out).mono ?_
  rintro e w1 ⟨v1, rfl, hS1, hb1, -⟩
  obtain ⟨a1, c1, rfl, p1, p2, -, hel1⟩ := id hS1
  have HS1 := Lib.hid hS1
  have HB1 := Lib.hid ((HG0.out.alloc _).trans hb1)
  obtain ⟨b1, o1, rfl, -, -, q2, -⟩ := smAt hel1 1 (by decide)
  have HQ2 := Lib.hid q2
  simp only [show s27.length = 2 from rfl] at p1 ⊢
  clear hS1 hb1 hel1 q2 hmk
  go_wp2_with fail
  have hD : ∀ (W : World), Grow (((w1.alloc (.cells #[.int .i64 1, .int .i64 2, .int .i64 7] 32)).alloc (.cells #[.int .i64 0, .int .i64 2, .int .i64 (-7)] 32)).alloc (.cells #[.int .i64 0, .slice (some ⟨w1.heap.size, 0, none⟩) 1 1, .int .i64 0, .slice (some ⟨w1.heap.size + 1, 0, none⟩) 1 1] 45)) W → Sl Ty.rd W.cell? (.slice (some ⟨w1.heap.size + 1 + 1, 0, none⟩) 2 2) [⟨0, p127⟩, ⟨0, p027⟩] := fun W hW => by
    refine Sl.lit (T := Ty.rd) ((w1.alloc (.cells #[.int .i64 1, .int .i64 2, .int .i64 7] 32)).alloc (.cells #[.int .i64 0, .int .i64 2, .int .i64 (-7)] 32)) [[.int .i64 0, .slice (some ⟨w1.heap.size, 0, none⟩) 1 1], [.int .i64 0, .slice (some ⟨w1.heap.size + 1, 0, none⟩) 1 1]] (by decide) hW (by simp) rfl (by decide) rfl ⟨⟨_, rfl, HI0.out, HP1.out _ _ _ ((Grow.refl _).alloc _)⟩, ⟨_, rfl, HI0.out, HP2.out (w1.alloc (.cells #[.int .i64 1, .int .i64 2, .int .i64 7] 32)) _ _ _ (by simp) (Grow.refl _)⟩, trivial⟩
  refine (HAL.out _ _ (hD _ (Grow.refl _))).mono ?_
  rintro e w2 ⟨v2, v3, rfl, hS2, hE2, hb2⟩
  obtain ⟨a2, c2, rfl, -⟩ := id hS2
  obtain ⟨a3, c3, rfl, p3, p4, -, hel3⟩ := id hE2
  obtain ⟨b3, o3, rfl, r1, -⟩ := intAt hel3 1 (by decide)
  have HB2 := Lib.hid (((((Grow.refl w1).alloc _).alloc _).alloc _).trans hb2)
  have HS2 := Lib.hid hS2
  have q2 := HB2.out.sub _ _ HQ2.out
  have zq := World.block_lt_of_cell? w2 _ q2
  have zr := World.block_lt_of_cell? w2 _ r1
  have HR1 := Lib.hid r1
  simp only [show s27.length = 2 from rfl, List.length_cons, List.length_nil, Nat.zero_add, Nat.one_mul, show s27[1].c = 7 from rfl] at zq zr p3 q2 ⊢
  have q2' : w2.cell? ⟨b1, o1 + 6, none⟩ = some (.int .i64 7) := q2
  clear hD hS2 hE2 hel3 hb2 r1
  go_wp2_with fail
  refine (HTO.out _ _ (HS1.out.mono HB2.out.sub)).mono ?_
  rintro e w3 ⟨rfl, hb3⟩
  have HB3 := Lib.hid (HB2.out.trans hb3)
  have HS3 := Lib.hid (HS2.out.mono hb3.sub)
  have r1 := hb3.sub _ _ HR1.out
  have zr3 := World.block_lt_of_cell? w3 _ r1
  simp only [List.getElem_cons_succ, List.getElem_cons_zero] at r1 zr3
  clear hb3 q2 q2' zq
  go_wp2_with fail
  refine (ref_sameSums _ (HS1.out.mono HB3.out.sub) HS3.out).mono ?_
  rw [decide_eq_true rfl]
  rintro e w4 ⟨rfl, hb4⟩
  have HB4 := Lib.hid (HB1.out.trans (HB3.out.trans hb4))
  have r2 := hb4.sub _ _ r1
  have zr4 := World.block_lt_of_cell? w4 _ r2
  simp only at zr4
  clear hb4 r1 zr3
  go_wp2
  go_ret
  exact ⟨rfl, HB4.out⟩
end Go.Proofs.Ytgbhpghgohggcaa

/- The closed fact that chapter 2's laws ask first, walked. -/
namespace Go.Proofs.Ytgbhpghgohggcaa
open Go.RowKit
def m5 : Ms := ⟨1, 70, 2, [⟨2, 1, -5⟩]⟩
theorem num300 : (numB (-300)).length = 2 := by
  unfold numB
  rw [show zig (-300) = 599 from rfl, varint_big (by decide), varint_small (by decide)]
  rfl
theorem get300 : getB (numB (-300)) = (-300, 2, 0) := by
  have h := get_num (n := -300) [] (by decide)
  rw [List.append_nil, num300] at h
  exact h
theorem wrong_m5 : wrongM m5 = 0 := by decide
set_option maxRecDepth 100000 in
set_option maxHeartbeats 1000000 in
theorem alive2 (w : World) : Calls Try.prog 57 #[] w fun e w' => e = .returned (.bool true) ∧ Grow w w' := by
  have i1 : I64 1 := by unfold I64; decide
  have i2 : I64 2 := by unfold I64; decide
  have i70 : I64 70 := by unfold I64; decide
  have im : I64 (-5) := by unfold I64; decide
  have HN3 : Hid (I64 (-300)) := Lib.hid (by unfold I64; decide)
  have HM : Hid (∀ W, Grow (w.alloc (.cells #[.int .i64 2, .int .i64 1, .int .i64 (-5)] 32)) W → Of Ty.ms W.cell? (.agg #[.int .i64 1, .int .i64 70, .int .i64 2, .slice (some ⟨w.heap.size, 0, none⟩) 1 1]) m5) := fun W hW =>
    ⟨_, rfl, _, rfl, i1, i70, i2, pts_at 2 1 (-5) i2 i1 im w W _ rfl hW⟩
  have HG0 : Hid (Grow w ((w.alloc (.cells #[.int .i64 2, .int .i64 1, .int .i64 (-5)] 32)).alloc (.cells #[.int .i64 1, .int .i64 70, .int .i64 2, .slice (some ⟨w.heap.size, 0, none⟩) 1 1] 39))) := Lib.hid (((Grow.refl w).alloc _).alloc _)
  have R1 : Hid (((w.alloc (.cells #[.int .i64 2, .int .i64 1, .int .i64 (-5)] 32)).alloc (.cells #[.int .i64 1, .int .i64 70, .int .i64 2, .slice (some ⟨w.heap.size, 0, none⟩) 1 1] 39)).heap[w.heap.size + 1]? = some (.cells #[.int .i64 1, .int .i64 70, .int .i64 2, .slice (some ⟨w.heap.size, 0, none⟩) 1 1] 39 (0, 0))) := Lib.hid (by simpa using row_new (w.alloc (.cells #[.int .i64 2, .int .i64 1, .int .i64 (-5)] 32)) _)
  have HP0 : Hid (∀ W, Grow ((w.alloc (.cells #[.int .i64 2, .int .i64 1, .int .i64 (-5)] 32)).alloc (.cells #[.int .i64 1, .int .i64 70, .int .i64 2, .slice (some ⟨w.heap.size, 0, none⟩) 1 1] 39)) W → Grow (w.alloc (.cells #[.int .i64 2, .int .i64 1, .int .i64 (-5)] 32)) W) := fun W hW => ((Grow.refl _).alloc _).trans hW
  clear i1 i2 i70 im
  go_enter Try.func57, Try.ntmps57
  go_wp2_with fail
  refine (wire_bytes (m := m5) _ (HM.out _ ((Grow.refl _).alloc _)) (by decide) (by decide)).mono ?_
  rintro e w1 ⟨v1, rfl, ho1, hb1⟩
  obtain ⟨a1, k1, rfl⟩ := owns_form ho1
  have HO1 := Lib.hid ho1
  have R1_1 := Lib.hid (row_grow R1.out hb1)
  have HP1 := Lib.hid (HP0.out _ hb1)
  have G1 := Lib.hid (HG0.out.trans hb1)
  clear ho1 hb1
  go_wp2_with fail
  refine (wire_read _ HO1.out.bts).mono ?_
  rw [read_bytes wrong_m5]
  rintro e w2 ⟨v2, rfl, hm2, hb2⟩
  obtain ⟨a2, k2, rfl⟩ := hm2.ms_form
  have HM2 := Lib.hid (hm2.mono (ov_sub (fun _ _ e9 => by cases e9) hb2))
  have R1_2 := Lib.hid (row_grow R1_1.out hb2)
  have HP2 := Lib.hid (HP1.out.trans hb2)
  have G2 := Lib.hid (G1.out.trans hb2)
  clear hm2 hb2
  have R3_3 := Lib.hid (row_new w2 (.cells #[.int .i64 m5.kind, .int .i64 m5.deed, .int .i64 m5.house, .slice a2 m5.parts.length k2] 39))
  have R1_3 := Lib.hid (heap_later R1_2.out (.cells #[.int .i64 m5.kind, .int .i64 m5.deed, .int .i64 m5.house, .slice a2 m5.parts.length k2] 39))
  have HP3 := Lib.hid (HP2.out.alloc (.cells #[.int .i64 m5.kind, .int .i64 m5.deed, .int .i64 m5.house, .slice a2 m5.parts.length k2] 39))
  have HM3 := Lib.hid (HM2.out.mono ((Grow.refl w2).alloc (.cells #[.int .i64 m5.kind, .int .i64 m5.deed, .int .i64 m5.house, .slice a2 m5.parts.length k2] 39)).sub)
  have G3 := Lib.hid (G2.out.alloc (.cells #[.int .i64 m5.kind, .int .i64 m5.deed, .int .i64 m5.house, .slice a2 m5.parts.length k2] 39))
  rw [show m5.kind = 1 from rfl, show m5.deed = 70 from rfl, show m5.house = 2 from rfl, show m5.parts.length = 1 from rfl] at *
  have HB3 := Lib.hid (wire_number (base := (w2.alloc (.cells #[.int .i64 1, .int .i64 70, .int .i64 2, .slice a2 1 k2] 39)).heap.size) (v := .slice none 0 0) (b := []) (n := -300) (w2.alloc (.cells #[.int .i64 1, .int .i64 70, .int .i64 2, .slice a2 1 k2] 39)) (World.ownsRow_nil _ _ _ _) (Nat.le_refl _) HN3.out (by decide))
  go_wp2_with fail
  refine HB3.out.mono ?_
  rw [List.nil_append]
  rintro e w4 ⟨v4, rfl, ho4, hm4⟩
  have hb4 := hm4.nil
  have HO4 := Lib.hid ho4
  have R1_4 := Lib.hid (row_grow R1_3.out hb4)
  have R3_4 := Lib.hid (row_grow R3_3.out hb4)
  have HP4 := Lib.hid (HP3.out.trans hb4)
  have HM4 := Lib.hid (HM3.out.mono hb4.sub)
  have G4 := Lib.hid (G3.out.trans hb4)
  clear ho4 hm4 hb4
  go_wp2_with fail
  refine (wire_get _ HO4.out.bts).mono ?_
  rw [get300]
  rintro e w5 ⟨rfl, hb5⟩
  have R1_5 := Lib.hid (row_grow R1_4.out hb5)
  have R3_5 := Lib.hid (row_grow R3_4.out hb5)
  have HP5 := Lib.hid (HP4.out.trans hb5)
  have HM5 := Lib.hid (HM4.out.mono hb5.sub)
  have G5 := Lib.hid (G4.out.trans hb5)
  clear hb5
  obtain ⟨c0, c1, c2, c3⟩ := cells4 R1_5.out
  obtain ⟨d0, d1, d2, d3⟩ := cells4 R3_5.out
  have z1 : w.heap.size + 1 < w5.heap.size := (Array.getElem?_eq_some_iff.1 R1_5.out).1
  have z3 : w2.heap.size < w5.heap.size := (Array.getElem?_eq_some_iff.1 R3_5.out).1
  go_wp2_with fail
  refine (ref_sameMsg _ (HM.out _ HP5.out) HM5.out).mono ?_
  rw [decide_eq_true rfl]
  rintro e w6 ⟨rfl, hb6⟩
  have R1_6 := Lib.hid (row_grow R1_5.out hb6)
  have HP6 := Lib.hid (HP5.out.trans hb6)
  have G6 := Lib.hid (G5.out.trans hb6)
  clear hb6 c0 c1 c2 c3 d0 d1 d2 d3 z1 z3
  obtain ⟨c0, c1, c2, c3⟩ := cells4 R1_6.out
  have z1 : w.heap.size + 1 < w6.heap.size := (Array.getElem?_eq_some_iff.1 R1_6.out).1
  go_wp2_with fail
  refine (wire_wrong _ (HM.out _ HP6.out)).mono ?_
  rw [wrong_m5]
  rintro e w7 ⟨rfl, hb7⟩
  have G7 := Lib.hid (G6.out.trans hb7)
  clear hb7 c0 c1 c2 c3 z1
  go_wp2_with fail
  refine (wire_sum _ (Sl.nil _ _)).mono ?_
  rw [show sumB [] = 5 from rfl]
  rintro e w8 ⟨rfl, hb8⟩
  go_wp2
  go_ret
  exact ⟨rfl, G7.out.trans hb8⟩
end Go.Proofs.Ytgbhpghgohggcaa

/- The law WireTurns, walked. -/
namespace Go.Proofs.Ytgbhpghgohggcaa
open Go.RowKit
theorem OwnC.bytes' {c : CM} {w : World} {base : Nat} {v : Value} {l : List UInt8} (h : OwnB w base v l) : OwnC Ty.byte c w base 5 v l :=
  OwnC.of_flat (T := Ty.byte) (f := byteCell) h fun _ _ => rfl
theorem srcB {c : CM} {w : World} {v : Value} {b : List UInt8} (h : Bts w.cell? v b) : Src Ty.byte c w v b := by
  obtain ⟨ao, cap, css, h1, h2, h2', h3, h4, h5⟩ := Src.of_sl (T := Ty.byte) (by decide) h
  exact ⟨ao, cap, css, h1, h2, h2', h3, fun i cs x a b => h4 i cs x a b, h5⟩
def inR (n : Int) : Bool := decide (-1099511627776 < n ∧ n < 1099511627776)
theorem right_kind {m : Ms} (h : wrongM m = 0) : 0 ≤ m.kind ∧ m.kind < 256 := by
  have := (right_m.1 h).kind
  omega
theorem right_len {m : Ms} (h : wrongM m = 0) : m.parts.length ≤ 4 := (right_m.1 h).len
set_option maxRecDepth 100000 in
set_option maxHeartbeats 4000000 in
theorem wireTurns_walk {v vb : Value} {m : Ms} {b : List UInt8} {n : Int} (w : World) (hm : Of Ty.ms w.cell? v m) (hb : Bts w.cell? vb b) (hbs : b.length * 1 ≤ 140737488351232) (hn : I64 n) :
    Calls Try.prog 12 #[v, vb, .int .i64 n] w fun e w' => e = .returned (.bool true) ∧ Grow w w' := by
  have HMV := Lib.hid hm
  have HBV := Lib.hid hb
  have HIN := Lib.hid hn
  obtain ⟨ap, cp, rfl⟩ := hm.ms_form
  obtain ⟨ab, cb, rfl, hbl, hbc, -, -⟩ := id hb
  unfold maxLen at hbc
  have HAL := Lib.hid (alive2 (w.alloc (.cells #[.int .i64 m.kind, .int .i64 m.deed, .int .i64 m.house, .slice ap m.parts.length cp] 39)))
  have HWR := Lib.hid (fun (W : World) (hW : Grow w W) => wire_wrong W (hm.mono hW.sub))
  clear hm hb hn
  go_enter Try.func12, Try.ntmps12
  go_wp2_with fail
  refine HAL.out.mono ?_
  rintro e w1 ⟨rfl, hb1⟩
  have R3 := Lib.hid (row_grow (row_new w (.cells #[.int .i64 m.kind, .int .i64 m.deed, .int .i64 m.house, .slice ap m.parts.length cp] 39)) hb1)
  have G1 := Lib.hid (((Grow.refl w).alloc (.cells #[.int .i64 m.kind, .int .i64 m.deed, .int .i64 m.house, .slice ap m.parts.length cp] 39)).trans hb1)
  clear hb1
  obtain ⟨c0, c1, c2, c3⟩ := cells4 R3.out
  have z3 : w.heap.size < w1.heap.size := (Array.getElem?_eq_some_iff.1 R3.out).1
  go_wp2_with fail
  refine (HWR.out _ G1.out).mono ?_
  rintro e w2 ⟨rfl, hb2⟩
  have R3_2 := Lib.hid (row_grow R3.out hb2)
  have G2 := Lib.hid (G1.out.trans hb2)
  clear hb2 c0 c1 c2 c3 z3 R3 G1
  go_upto_if 19 with fail
  go_cut [] from 17 (fun wc => Grow w wc)
  case first =>
    by_cases hw : wrongM m = 0
    · have hbw : (wrongM m == 0) = true := by simp [hw]
      have HRB := Lib.hid (read_bytes hw)
      have HK := Lib.hid (right_kind hw)
      have HL := Lib.hid (right_len hw)
      clear hw
      obtain ⟨c0, c1, c2, c3⟩ := cells4 R3_2.out
      have z3 : w.heap.size < w2.heap.size := (Array.getElem?_eq_some_iff.1 R3_2.out).1
      go_wp2_with fail
      refine (wire_bytes (m := m) _ (HMV.out.mono G2.out.sub) HK.out HL.out).mono ?_
      rintro e w3 ⟨v3, rfl, ho3, hb3⟩
      obtain ⟨a3, k3, rfl⟩ := owns_form ho3
      have HO3 := Lib.hid ho3
      have R3_3 := Lib.hid (row_grow R3_2.out hb3)
      have G3 := Lib.hid (G2.out.trans hb3)
      clear ho3 hb3 c0 c1 c2 c3 z3
      generalize (bytesM m).length = lm at *
      go_wp2_with fail
      refine (wire_read _ HO3.out.bts).mono ?_
      rw [HRB.out]
      rintro e w4 ⟨v4, rfl, hm4, hb4⟩
      obtain ⟨a4, k4, rfl⟩ := hm4.ms_form
      have HM4 := Lib.hid ((hm4.mono (ov_sub (fun _ _ e9 => by cases e9) hb4)).mono ((Grow.refl w4).alloc (.cells #[.int .i64 m.kind, .int .i64 m.deed, .int .i64 m.house, .slice a4 m.parts.length k4] 39)).sub)
      have R7 := Lib.hid (row_new w4 (.cells #[.int .i64 m.kind, .int .i64 m.deed, .int .i64 m.house, .slice a4 m.parts.length k4] 39))
      have R3_4 := Lib.hid (row_grow R3_3.out hb4)
      have G4 := Lib.hid ((G3.out.trans hb4).alloc (.cells #[.int .i64 m.kind, .int .i64 m.deed, .int .i64 m.house, .slice a4 m.parts.length k4] 39))
      clear hm4 hb4
      obtain ⟨c0, c1, c2, c3⟩ := cells4 R3_4.out
      have z3 : w.heap.size < w4.heap.size := (Array.getElem?_eq_some_iff.1 R3_4.out).1
      go_wp2_with fail
      refine (ref_sameMsg _ HM4.out (HMV.out.mono G4.out.sub)).mono ?_
      rw [decide_eq_true rfl]
      rintro e w5 ⟨rfl, hb5⟩
      have G5 := Lib.hid (G4.out.trans hb5)
      clear hb5 c0 c1 c2 c3 z3
      go_wp2
      go_meet
      case rel => exact G5.out
    · have hbw : (wrongM m == 0) = false := by simp [hw]
      clear hw
      go_wp2
      go_meet
      case rel => exact G2.out
  case rest =>
  have GC := Lib.hid hcut
  clear hcut R3_2 G2
  obtain ⟨wx, rfl⟩ : ∃ x : World, x = wc := ⟨_, rfl⟩

  go_upto_region 7 with fail
  go_cut [39] from 17 (fun s39 wc => Grow w wc ∧ s39 = .bool (inR n))
  case first =>
    by_cases h1 : -1099511627776 < n
    · by_cases h2 : n < 1099511627776
      · have HR : Hid (inR n = true) := Lib.hid (by unfold inR; simp [h1, h2])
        go_wp2
        go_meet
        case rel => exact ⟨GC.out, by rw [HR.out]⟩
      · have HR : Hid (inR n = false) := Lib.hid (by unfold inR; simp [h2])
        go_wp2
        go_meet
        case rel => exact ⟨GC.out, by rw [HR.out]⟩
    · have HR : Hid (inR n = false) := Lib.hid (by unfold inR; simp [h1])
      go_wp2
      go_meet
      case rel => exact ⟨GC.out, by rw [HR.out]⟩
  case rest =>
  obtain ⟨hgc, rfl⟩ := hcut
  clear GC
  have GC := Lib.hid hgc
  clear hgc wx
  obtain ⟨wx, rfl⟩ : ∃ x : World, x = wc := ⟨_, rfl⟩
  go_upto_if 39 with fail
  go_cut [] from 17 (fun wc => Grow w wc)
  case first =>
    cases hin : inR n with
    | false =>
      go_wp2
      go_meet
      case rel => exact GC.out
    | true =>
      have hin2 : -1099511627776 < n ∧ n < 1099511627776 := of_decide_eq_true hin
      have HGN := Lib.hid (get_num (n := n) b (zig_lt (by omega) (by omega)))
      obtain ⟨n0, n1⟩ := i64_bounds HIN.out
      have HNL := Lib.hid (numB_len n0 n1)
      clear hin2 hin n0 n1
      have HNB := Lib.hid (wire_number (base := wx.heap.size) (v := .slice none 0 0) (b := []) (n := n) wx (World.ownsRow_nil _ _ _ _) (Nat.le_refl _) HIN.out (by decide))
      go_wp2_with fail
      refine HNB.out.mono ?_
      rw [List.nil_append]
      rintro e w3 ⟨v3, rfl, ho3, hm3⟩
      obtain ⟨a3, k3, rfl⟩ := owns_form ho3
      have HO3 := Lib.hid ho3
      have G3 := Lib.hid (GC.out.trans hm3.nil)
      clear ho3 hm3
      generalize numB n = c at *
      go_wp2_with (first | (at_builtin; refine wpList_appc (c := fun _ => none) (base := w3.heap.size) (l := []) (m := c) ei_byte rfl one_Tbyte (by decide) rfl (.tmp 43) (.tmp 44) rfl rfl (OwnC.made0 Ty.byte (fun _ => none) _ _ _ ?c1 ?c1') rfl ?src ?c3 ?c4 ?_))
      case c1 => exact Nat.le_refl _
      case c1' => rfl
      case src => exact srcB ((HO3.out.bts).mono ((Grow.refl _).alloc _).sub)
      case c3 => have := HNL.out; simp; omega
      case c4 => simp
      intro a4 c4 w4 ho4 hg4 hb4
      try simp only [List.length_nil, Nat.zero_add, List.nil_append] at ho4 hb4 ⊢
      have HO4 := Lib.hid ho4
      have G4 := Lib.hid (grow_by (w0 := w3) ((Grow.refl w3).alloc _) hg4 (own_at (Nat.le_refl _)))
      have HO34 := Lib.hid (HO3.out.grow G4.out)
      clear ho4 hg4 hb4
      go_wp2_with (first | (at_builtin; refine wpList_appc (c := fun _ => none) (base := w3.heap.size) (l := c) (m := b) ei_byte rfl one_Tbyte (by decide) rfl (.tmp 45) (.tmp 46) rfl rfl HO4.out rfl ?src ?c3 ?c4 ?_))
      case src => exact srcB (HBV.out.mono (G3.out.trans G4.out).sub)
      case c3 => have := HNL.out; omega
      case c4 => exact G4.out.size
      intro a5 c5 w5 ho5 hg5 hb5
      have HB5 : Hid (Bts w5.cell? (.slice a5 (c.length + b.length) c5) (c ++ b)) := Lib.hid (by have h9 := ho5.sl (by decide) (fun _ _ e9 => by cases e9); simpa using h9)
      have G5 := Lib.hid (G3.out.trans (grow_by (w0 := w3) G4.out hg5 (fun q hq => (HO4.out.lt q hq).1)))
      clear ho5 hg5 hb5
      go_wp2_with fail
      refine (wire_get _ HB5.out).mono ?_
      rw [HGN.out]
      rintro e w6 ⟨rfl, hb6⟩
      have G6 := Lib.hid (G5.out.trans hb6)
      clear hb6
      go_wp2
      go_meet
      case rel => exact G6.out
  case rest =>
  have GD0 := Lib.hid hcut
  clear hcut GC
  obtain ⟨wy, rfl⟩ : ∃ x : World, x = wc := ⟨_, rfl⟩
  have HRD := Lib.hid (wire_read wy (HBV.out.mono GD0.out.sub))
  cases hrd : readB b with
  | mk x er =>
    rw [hrd] at HRD
    simp only at HRD
    by_cases he : er = 0
    · subst he
      obtain ⟨hw, hxb⟩ := bytes_read hrd
      have HW := Lib.hid hw
      have HXB := Lib.hid hxb
      have HKN := Lib.hid (right_kind hw)
      have HL := Lib.hid (right_len hw)
      clear hw hxb hrd
      go_wp2_with fail
      refine HRD.out.mono ?_
      rintro e w3 ⟨v3, rfl, hm3, hb3⟩
      obtain ⟨a3, k3, rfl⟩ := hm3.ms_form
      have HM3 := Lib.hid (hm3.mono (ov_sub (fun _ _ e9 => by cases e9) hb3))
      have G3 := Lib.hid (GD0.out.trans hb3)
      clear hm3 hb3
      go_wp2_with fail
      obtain ⟨wz, hwz⟩ : ∃ y : World, y = w3.alloc (.cells #[.int .i64 x.kind, .int .i64 x.deed, .int .i64 x.house, .slice a3 x.parts.length k3] 39) := ⟨_, rfl⟩
      have RZ : Hid (wz.heap[w3.heap.size]? = some (.cells #[.int .i64 x.kind, .int .i64 x.deed, .int .i64 x.house, .slice a3 x.parts.length k3] 39 (0, 0))) := Lib.hid (by rw [hwz]; exact row_new _ _)
      have MZ := Lib.hid (show Of Ty.ms wz.cell? (.agg #[.int .i64 x.kind, .int .i64 x.deed, .int .i64 x.house, .slice a3 x.parts.length k3]) x by rw [hwz]; exact HM3.out.mono ((Grow.refl _).alloc _).sub)
      have GZ := Lib.hid (show Grow w wz by rw [hwz]; exact G3.out.alloc _)
      rw [← hwz]
      generalize w3.heap.size = B at *
      clear hwz HM3 G3 GD0
      have HS : Hid (∀ W, Grow wz W → W.cell? ⟨B, 0, none⟩ = some (.int .i64 x.kind) ∧ W.cell? ⟨B, 1, none⟩ = some (.int .i64 x.deed) ∧ W.cell? ⟨B, 2, none⟩ = some (.int .i64 x.house) ∧ W.cell? ⟨B, 3, none⟩ = some (.slice a3 x.parts.length k3) ∧ (convert 69 9 (.slice ab b.length cb)).run Try.prog W = .ok (.string (strOf b)) W) := fun W hW => by
        obtain ⟨d0, d1, d2, d3⟩ := cells4 (row_grow RZ.out hW)
        exact ⟨d0, d1, d2, d3, bts_string (HBV.out.mono (GZ.out.trans hW).sub)⟩

      refine but_start (fun w' => w'.cell? ⟨B, 0, none⟩ = some (.int .i64 x.kind) ∧ w'.cell? ⟨B, 1, none⟩ = some (.int .i64 x.deed) ∧ w'.cell? ⟨B, 2, none⟩ = some (.int .i64 x.house) ∧ w'.cell? ⟨B, 3, none⟩ = some (.slice a3 x.parts.length k3) ∧ (convert 69 9 (.slice ab b.length cb)).run Try.prog w' = .ok (.string (strOf b)) w') 15 (by kernel_rfl) ?_
      obtain ⟨wd, hWd⟩ : ∃ x : World, x = wz.drew := ⟨_, rfl⟩
      rw [← hWd]
      have GD : Grow wz wd := by rw [hWd]; exact (Grow.refl _).drew
      have zD : wz.heap.size = wd.heap.size := by rw [hWd]; rfl
      have ZD := Lib.hid zD
      clear hWd zD
      refine but_take (i := 0) (v := ?_) 18 rfl (by kernel_rfl) (by kernel_rfl) (by kernel_rfl) (by kernel_rfl) (by kernel_rfl) (fun _ _ _ h => h) (HS.out _ GD) (Or.inl ⟨by rfl, ?_⟩) ?_
      rotate_left
      · (intro w' hSw; (try dsimp only at hSw); obtain ⟨hs0, hs1, hs2, hs3, hs4⟩ := hSw; go_simp <;> with_reducible rfl)
      try simp only [Act.put, List.getElem_toArray, List.getElem_cons_zero, List.setIfInBounds_toArray, List.set_cons_zero, List.set_cons_succ]
      refine but_take (i := 1) (v := ?_) 18 rfl (by kernel_rfl) (by kernel_rfl) (by kernel_rfl) (by kernel_rfl) (by kernel_rfl) (fun _ _ _ h => h) (HS.out _ GD) (Or.inl ⟨by rfl, ?_⟩) ?_
      rotate_left
      · (intro w' hSw; (try dsimp only at hSw); obtain ⟨hs0, hs1, hs2, hs3, hs4⟩ := hSw; go_simp <;> with_reducible rfl)
      try simp only [Act.put, List.getElem_toArray, List.getElem_cons_succ, List.getElem_cons_zero, List.setIfInBounds_toArray, List.set_cons_zero, List.set_cons_succ]
      refine but_take (i := 2) (v := ?_) 18 rfl (by kernel_rfl) (by kernel_rfl) (by kernel_rfl) (by kernel_rfl) (by kernel_rfl) (fun _ _ _ h => h) (HS.out _ GD) (Or.inl ⟨by rfl, ?_⟩) ?_
      rotate_left
      · (intro w' hSw; (try dsimp only at hSw); obtain ⟨hs0, hs1, hs2, hs3, hs4⟩ := hSw; go_simp <;> with_reducible rfl)
      try simp only [Act.put, List.getElem_toArray, List.getElem_cons_succ, List.getElem_cons_zero, List.setIfInBounds_toArray, List.set_cons_zero, List.set_cons_succ]
      refine but_take (i := 3) (v := ?_) 18 rfl (by kernel_rfl) (by kernel_rfl) (by kernel_rfl) (by kernel_rfl) (by kernel_rfl) (fun _ _ _ h => h) (HS.out _ GD) (Or.inl ⟨by rfl, ?_⟩) ?_
      rotate_left
      · (intro w' hSw; (try dsimp only at hSw); obtain ⟨hs0, hs1, hs2, hs3, hs4⟩ := hSw; go_simp <;> with_reducible rfl)
      try simp only [Act.put, List.getElem_toArray, List.getElem_cons_succ, List.getElem_cons_zero, List.setIfInBounds_toArray, List.set_cons_zero, List.set_cons_succ]
      refine but_take (i := 6) (v := ?_) 18 rfl (by kernel_rfl) (by kernel_rfl) (by kernel_rfl) (by kernel_rfl) (by kernel_rfl) (fun _ _ _ h => h) (HS.out _ GD) (Or.inl ⟨by rfl, ?_⟩) ?_
      rotate_left
      · (intro w' hSw; (try dsimp only at hSw); obtain ⟨hs0, hs1, hs2, hs3, hs4⟩ := hSw; go_simp <;> with_reducible rfl)
      try simp only [Act.put, List.getElem_toArray, List.getElem_cons_succ, List.getElem_cons_zero, List.setIfInBounds_toArray, List.set_cons_zero, List.set_cons_succ]
      refine but_take (i := 7) (v := ?_) 18 rfl (by kernel_rfl) (by kernel_rfl) (by kernel_rfl) (by kernel_rfl) (by kernel_rfl) (fun _ _ _ h => h) (HS.out _ GD) (Or.inl ⟨by rfl, ?_⟩) ?_
      rotate_left
      · (intro w' hSw; (try dsimp only at hSw); obtain ⟨hs0, hs1, hs2, hs3, hs4⟩ := hSw; go_simp <;> with_reducible rfl)
      try simp only [Act.put, List.getElem_toArray, List.getElem_cons_succ, List.getElem_cons_zero, List.setIfInBounds_toArray, List.set_cons_zero, List.set_cons_succ]
      refine but_one (i := 4) (by kernel_rfl) rfl ?_
      intro K HK'
      have HK := Lib.hid HK'
      clear HK'
      refine wanted_yes (by rfl) ?_
      try simp only [List.getElem_toArray, List.getElem_cons_succ, List.getElem_cons_zero]
      go_simp
      go_at_call 60
      refine (wire_bytes (m := x) _ (MZ.out.mono GD.sub) HKN.out HL.out).mono ?_
      rw [HXB.out]
      rintro e4 w4 ⟨v4, rfl, ho4, hb4⟩
      obtain ⟨a4, k4, rfl⟩ := owns_form ho4
      have HO4 := Lib.hid ho4
      have G4 := Grow.trans GD hb4
      clear ho4
      refine HK.out _ _ ⟨fun _ => HS.out _ G4, ?_⟩
      clear HK K
      try simp only [Act.put, List.getElem_toArray, List.getElem_cons_succ, List.getElem_cons_zero, List.setIfInBounds_toArray, List.set_cons_zero, List.set_cons_succ]
      refine but_one (i := 5) (by kernel_rfl) rfl ?_
      intro K HK'
      have HK := Lib.hid HK'
      clear HK'
      refine wanted_yes (by rfl) ?_
      try simp only [List.getElem_toArray, List.getElem_cons_succ, List.getElem_cons_zero]
      have hcv := bts_string HO4.out.bts
      go_simp
      clear hcv
      refine HK.out _ _ ⟨fun _ => HS.out _ G4, ?_⟩
      clear HK K
      try simp only [Act.put, List.getElem_toArray, List.getElem_cons_succ, List.getElem_cons_zero, List.setIfInBounds_toArray, List.set_cons_zero, List.set_cons_succ]
      refine but_one (i := 8) (by kernel_rfl) rfl ?_
      intro K HK'
      have HK := Lib.hid HK'
      clear HK'
      refine wanted_yes (by rfl) ?_
      try simp only [List.getElem_toArray, List.getElem_cons_succ, List.getElem_cons_zero]
      go_simp
      refine HK.out _ _ ⟨fun _ => HS.out _ G4, ?_⟩
      clear HK K
      try simp only [Act.put, List.getElem_toArray, List.getElem_cons_succ, List.getElem_cons_zero, List.setIfInBounds_toArray, List.set_cons_zero, List.set_cons_succ]
      refine but_one (i := 9) (by kernel_rfl) rfl ?_
      intro K HK'
      have HK := Lib.hid HK'
      clear HK'
      refine wanted_yes (by rfl) ?_
      try simp only [List.getElem_toArray, List.getElem_cons_succ, List.getElem_cons_zero]
      go_simp
      refine HK.out _ _ ⟨fun _ => HS.out _ G4, ?_⟩
      clear HK K
      try simp only [Act.put, List.getElem_toArray, List.getElem_cons_succ, List.getElem_cons_zero, List.setIfInBounds_toArray, List.set_cons_zero, List.set_cons_succ]
      refine but_take (i := 10) (v := ?_) 18 rfl (by kernel_rfl) (by kernel_rfl) (by kernel_rfl) (by kernel_rfl) (by kernel_rfl) (fun _ _ _ h => h) (HS.out _ G4) (Or.inl ⟨by rfl, ?_⟩) ?_
      rotate_left
      · (intro w' hSw; (try dsimp only at hSw); obtain ⟨hs0, hs1, hs2, hs3, hs4⟩ := hSw; go_simp <;> with_reducible rfl)
      try simp only [Act.put, List.getElem_toArray, List.getElem_cons_succ, List.getElem_cons_zero, List.setIfInBounds_toArray, List.set_cons_zero, List.set_cons_succ]
      refine but_one (i := 11) (by kernel_rfl) rfl ?_
      intro K HK'
      have HK := Lib.hid HK'
      clear HK'
      refine wanted_yes (by rfl) ?_
      try simp only [List.getElem_toArray, List.getElem_cons_succ, List.getElem_cons_zero]
      go_simp
      go_at_call 58
      refine (wire_wrong _ (MZ.out.mono G4.sub)).mono ?_
      rw [HW.out]
      rintro e5 w5 ⟨rfl, hb5⟩
      have G5 := Grow.trans G4 hb5
      refine HK.out _ _ ⟨fun _ => HS.out _ G5, ?_⟩
      clear HK K
      try simp only [Act.put, List.getElem_toArray, List.getElem_cons_succ, List.getElem_cons_zero, List.setIfInBounds_toArray, List.set_cons_zero, List.set_cons_succ]
      refine but_one (i := 12) (by kernel_rfl) rfl ?_
      intro K HK'
      have HK := Lib.hid HK'
      clear HK'
      refine wanted_yes (by rfl) ?_
      try simp only [List.getElem_toArray, List.getElem_cons_succ, List.getElem_cons_zero]
      go_simp
      refine HK.out _ _ ⟨fun _ => HS.out _ G5, ?_⟩
      clear HK K
      try simp only [Act.put, List.getElem_toArray, List.getElem_cons_succ, List.getElem_cons_zero, List.setIfInBounds_toArray, List.set_cons_zero, List.set_cons_succ]
      refine but_one (i := 13) (by kernel_rfl) rfl ?_
      intro K HK'
      have HK := Lib.hid HK'
      clear HK'
      refine wanted_yes (by rfl) ?_
      try simp only [List.getElem_toArray, List.getElem_cons_succ, List.getElem_cons_zero]
      go_simp
      refine HK.out _ _ ⟨fun _ => HS.out _ G5, ?_⟩
      clear HK K
      try simp only [Act.put, List.getElem_toArray, List.getElem_cons_succ, List.getElem_cons_zero, List.setIfInBounds_toArray, List.set_cons_zero, List.set_cons_succ]
      refine but_one (i := 14) (by kernel_rfl) rfl ?_
      intro K HK'
      have HK := Lib.hid HK'
      clear HK'
      skip
      try simp only [List.getElem_toArray, List.getElem_cons_succ, List.getElem_cons_zero]
      go_simp
      refine HK.out _ _ ⟨fun _ => HS.out _ G5, ?_⟩
      clear HK K
      try simp only [Act.put, List.getElem_toArray, List.getElem_cons_succ, List.getElem_cons_zero, List.setIfInBounds_toArray, List.set_cons_zero, List.set_cons_succ]
      refine but_one (i := 15) (by kernel_rfl) rfl ?_
      intro K HK'
      have HK := Lib.hid HK'
      clear HK'
      skip
      try simp only [List.getElem_toArray, List.getElem_cons_succ, List.getElem_cons_zero]
      go_simp
      refine HK.out _ _ ⟨fun h => absurd rfl h, ?_⟩
      clear HK K
      try simp only [Act.put, List.getElem_toArray, List.getElem_cons_succ, List.getElem_cons_zero, List.setIfInBounds_toArray, List.set_cons_zero, List.set_cons_succ]
      refine but_done (by kernel_rfl) ?_
      go_wp2
      go_ret
      exact ⟨rfl, GZ.out.trans G5⟩
    · have hbe : (er != 0) = true := by simp [he]
      clear he hrd
      go_wp2_with fail
      refine HRD.out.mono ?_
      rintro e w3 ⟨v3, rfl, hm3, hb3⟩
      obtain ⟨a3, k3, rfl⟩ := hm3.ms_form
      have G3 := Lib.hid (GD0.out.trans hb3)
      clear hm3 hb3
      go_wp2_with (go_quiet (fail))
      go_ret
      exact ⟨rfl, G3.out.trans (by repeat (first | with_reducible assumption | with_reducible exact Grow.refl _ | with_reducible apply Grow.drewN | with_reducible apply Grow.drew | with_reducible apply Grow.alloc | (refine Grow.setCell ?_ (by simp; done) _)))⟩
end Go.Proofs.Ytgbhpghgohggcaa

/- Walks: net.Send, net.Twice. -/
namespace Go.Proofs.Ytgbhpghgohggcaa
open Go.RowKit
/-- right messages are on their way, last: those for which there is no room are lost -/
def sendB (l : List (List UInt8)) (ms : List Ms) : List (List UInt8) := l ++ (ms.take (24 - l.length)).map bytesM
theorem sendB_nil (l : List (List UInt8)) : sendB l [] = l := by simp [sendB]
theorem sendB_len (l : List (List UInt8)) (ms : List Ms) : (sendB l ms).length = l.length + min (24 - l.length) ms.length := by simp [sendB]
theorem sendB_step {l : List (List UInt8)} {ms : List Ms} {k : Nat} (h : k < ms.length) : sendB l (ms.take (k + 1)) = if (sendB l (ms.take k)).length < 24 then sendB l (ms.take k) ++ [bytesM ms[k]] else sendB l (ms.take k) := by
  have hl := sendB_len l (ms.take k)
  rw [List.length_take] at hl
  by_cases hc : (sendB l (ms.take k)).length < 24
  · rw [if_pos hc]
    unfold sendB
    rw [List.take_take, List.take_take, Nat.min_eq_right (by omega), Nat.min_eq_right (by omega), List.take_succ_eq_append_getElem h, List.map_append, List.append_assoc]
    rfl
  · rw [if_neg hc]
    unfold sendB
    rw [List.take_take, List.take_take, Nat.min_eq_left (by omega), Nat.min_eq_left (by omega)]
theorem sendB_le (l : List (List UInt8)) (ms : List Ms) (h : (sendB l ms).length < 24) : l.length < 24 := by
  rw [sendB_len] at h; omega
set_option maxRecDepth 100000 in
set_option maxHeartbeats 1000000 in
theorem net_send {v vm : Value} {l : List (List UInt8)} {ms : List Ms} (w : World) (hv : Nts w.cell? v l) (hms : Mss w.cell? vm ms) (hr : ∀ m ∈ ms, wrongM m = 0) (hm : l.length * 24 ≤ 140737488355328) (hp : ∀ b ∈ l, b.length ≤ 140737488355328) :
    Calls Try.prog 69 #[v, vm] w fun e w' => ∃ v', e = .returned v' ∧ OwnC Ty.bs (fr w w' [v'.ownBlock]) w' w.heap.size 69 v' (sendB l ms) ∧ Grow w w' := by
  have HR := Lib.hid hr
  have HON := Lib.hid (net_own w hv hm hp)
  obtain ⟨am, cm, rfl, h1, h2, -, hel⟩ := hms
  unfold maxLen at h2
  clear hv hr hm hp
  go_enter Try.func69, Try.ntmps69
  go_wp2_with fail
  refine HON.out.mono ?_
  rintro e w1 ⟨v1, rfl, hown1, hb1⟩
  have HO1 := Lib.hid hown1
  have HB1 := Lib.hid hb1
  obtain ⟨a1, k1, rfl⟩ := hown1.form
  clear hown1 hb1
  go_wp2
  go_loopw [5, 12] (fun bv i wr => ∃ k : Nat, k ≤ ms.length ∧ i = .int .i64 k ∧ Grow w wr ∧ OwnC Ty.bs (fr w wr [bv.ownBlock]) wr w.heap.size 69 bv (sendB l (ms.take k))) (fun _ i _ => ms.length - (intOf i).toNat)
  case atStart => exact ⟨0, by omega, rfl, HB1.out, by rw [List.take_zero, sendB_nil]; exact HO1.out⟩
  case round =>
    obtain ⟨k, hk', rfl, hb, hown⟩ := hrel
    obtain ⟨av, cv, rfl⟩ := hown.form
    by_cases hlt : k < ms.length
    · obtain ⟨b, o, vp, rfl, c0, c1, c2, c3, i0, i1, i2, hP⟩ := Mss.at_ hel k hlt
      obtain ⟨ap, cp, rfl, -⟩ := id hP
      replace c0 := hb.sub _ _ c0
      replace c1 := hb.sub _ _ c1
      replace c2 := hb.sub _ _ c2
      replace c3 := hb.sub _ _ c3
      have hw := HR.out ms[k] (List.getElem_mem _)
      have HST := Lib.hid (sendB_step (l := l) hlt)
      have HBY := Lib.hid (fun (W : World) (hW : Grow wr W) => wire_bytes (m := ms[k]) W ⟨_, rfl, _, rfl, i0, i1, i2, hP.mono (hb.trans hW).sub⟩ (right_kind hw) (right_len hw))
      have HOWN := Lib.hid hown
      have HB := Lib.hid hb
      clear hel hP hw hown i0 i1 i2 hb
      generalize ms[k] = m at *
      generalize sendB l (ms.take k) = lk at *
      by_cases h24 : lk.length < 24
      · have HST2 := Lib.hid (show sendB l (ms.take (k + 1)) = lk ++ [bytesM m] by rw [HST.out, if_pos h24])
        clear HST
        go_wp2_with fail
        refine (HBY.out _ ((Grow.refl _).alloc _)).mono ?_
        rintro e w2 ⟨v2, rfl, ho2, hb2⟩
        obtain ⟨a2, cap2, rfl⟩ := owns_form ho2
        have HO2 := Lib.hid ho2
        have HB2 := Lib.hid (((Grow.refl wr).alloc (.cells #[.int .i64 m.kind, .int .i64 m.deed, .int .i64 m.house, .slice ap m.parts.length cp] 39)).trans hb2)
        clear ho2 hb2
        generalize bytesM m = r at *
        go_wp2_with (first | (at_builtin; refine wpList_appc (c := fr w (w2.alloc (.cells #[.slice a2 r.length cap2] 69)) [(Value.slice av lk.length cv).ownBlock]) (base := w.heap.size) (l := lk) (m := [r]) ei_bts rfl (one_Tsl Ty.byte) (by decide) rfl (.tmp 19) (.tmp 22) rfl rfl ?own rfl (Src.of_new (T := Ty.bs) (x := r) (cs := #[.slice a2 r.length cap2]) ?d0 _ _ ?d1) ?d2 ?d3 ?_))
        case own => exact (HOWN.out.mono (fr_grow (HB2.out.alloc _))).grow (HB2.out.alloc _)
        case d0 =>
          refine ⟨_, rfl, ?_⟩
          have hlt2 := HOWN.out.lt
          refine bts_fr (w1 := wr.alloc (.cells #[.int .i64 m.kind, .int .i64 m.deed, .int .i64 m.house, .slice ap m.parts.length cp] 39)) ?_ (by have := HB.out.size; simp; omega) ?_
          · exact owns_grow HO2.out ((Grow.refl _).alloc _)
          · intro q hq
            simp only [List.mem_singleton]
            intro e
            have := (hlt2 q e.symm).2
            simp at hq; omega
        case d1 => simp
        case d2 => simp; omega
        case d3 => have := (HB2.out.alloc (.cells #[.slice a2 r.length cap2] 69)).size; have := HB.out.size; omega
        intro a5 c5 w5 hown5 hg5 hb5
        have hG5 : Grow w w5 := grow_by (w0 := w) (HB.out.trans (HB2.out.alloc _)) hg5 (fun q hq => (HOWN.out.lt q hq).1)
        have HO5 := Lib.hid (hown5.mono (fr_app hg5 (hb5.imp_right fun ⟨g, e, hge⟩ => ⟨g, e, by simpa using hge⟩)))
        have HG5 := Lib.hid hG5
        clear hown5 hg5 hb5 hG5
        go_wp2
        go_roundw
        case rel => exact ⟨k + 1, by omega, by go_num, HG5.out, by rw [HST2.out]; exact HO5.out⟩
        case measure => simp [intOf]; omega
      · have HST2 := Lib.hid (show sendB l (ms.take (k + 1)) = lk by rw [HST.out, if_neg h24])
        clear HST
        go_wp2
        go_roundw
        case rel => exact ⟨k + 1, by omega, by go_num, HB.out.alloc _, by rw [HST2.out]; exact (HOWN.out.mono (fr_grow ((Grow.refl _).alloc _))).grow ((Grow.refl _).alloc _)⟩
        case measure => simp [intOf]; omega
    · clear hel
      go_wp2
      go_ret
      have h9 := hown
      rw [List.take_of_length_le (by omega)] at h9
      rw [List.take_of_length_le (by omega)]
      exact ⟨_, rfl, h9, hb⟩
def twiceB (l : List (List UInt8)) (n : Int) : List (List UInt8) × Int :=
  if 0 ≤ n ∧ n < l.length then (if l.length < 24 then l ++ [l.getD n.toNat []] else l, 0) else (l, 6)
set_option maxRecDepth 100000 in
set_option maxHeartbeats 1000000 in
theorem net_twice {v : Value} {l : List (List UInt8)} {n : Int} (w : World) (hv : Nts w.cell? v l) (hm : l.length * 24 ≤ 140737488355328) (hp : ∀ b ∈ l, b.length ≤ 140737488355328) :
    Calls Try.prog 67 #[v, .int .i64 n] w fun e w' => ∃ v', e = .returned (.tuple #[v', .int .i64 (twiceB l n).2]) ∧ OwnC Ty.bs (fr w w' [v'.ownBlock]) w' w.heap.size 69 v' (twiceB l n).1 ∧ Grow w w' := by
  have HON := Lib.hid (net_own w hv hm hp)
  have HP := Lib.hid hp
  obtain ⟨a, cap, rfl, h1, h2, -, hel⟩ := hv
  unfold maxLen at h2
  clear hm hp
  by_cases hin : 0 ≤ n ∧ n < l.length
  · obtain ⟨i, rfl⟩ : ∃ i : Nat, n = i := ⟨n.toNat, by omega⟩
    have hi : i < l.length := by omega
    obtain ⟨b, o, vp, rfl, c0, hP⟩ := Nts.at_ hel i hi
    obtain ⟨ap, cp, rfl, -⟩ := id hP
    have hpl := HP.out l[i] (List.getElem_mem _)
    have hgd : l.getD i [] = l[i] := by rw [List.getD_eq_getElem?_getD, List.getElem?_eq_getElem hi]; rfl
    have HE := Lib.hid (show twiceB l i = (if l.length < 24 then l ++ [l[i]] else l, 0) by unfold twiceB; rw [if_pos hin, Int.toNat_natCast, hgd])
    have HCL := Lib.hid (fun (W : World) (hW : Grow w W) => clone_byte W (hP.mono hW.sub) (by omega))
    clear hel hP hpl hgd hin
    generalize l[i] = r at *
    by_cases h24 : l.length < 24
    · have HE2 := Lib.hid (show twiceB l i = (l ++ [r], 0) by rw [HE.out, if_pos h24])
      clear HE HP
      go_enter Try.func67, Try.ntmps67
      go_wp2_with fail
      refine HON.out.mono ?_
      rintro e w1 ⟨v1, rfl, hown, hb⟩
      obtain ⟨av, cv, rfl⟩ := hown.form
      have HOWN := Lib.hid hown
      have HB := Lib.hid hb
      replace c0 := hb.sub _ _ c0
      clear hown hb
      go_wp2_with fail
      refine (HCL.out _ HB.out).mono ?_
      rintro e w2 ⟨v2, rfl, ho2, hb2⟩
      obtain ⟨a2, cap2, rfl⟩ := owns_form ho2
      have HO2 := Lib.hid ho2
      have HB2 := Lib.hid hb2
      clear ho2 hb2 c0
      go_wp2_with (first | (at_builtin; refine wpList_appc (c := fr w (w2.alloc (.cells #[.slice a2 r.length cap2] 69)) [(Value.slice av l.length cv).ownBlock]) (base := w.heap.size) (l := l) (m := [r]) ei_bts rfl (one_Tsl Ty.byte) (by decide) rfl (.tmp 21) (.tmp 27) rfl rfl ?own rfl (Src.of_new (T := Ty.bs) (x := r) (cs := #[.slice a2 r.length cap2]) ?d0 _ _ ?d1) ?d2 ?d3 ?_))
      case own => exact (HOWN.out.mono (fr_grow (HB2.out.alloc _))).grow (HB2.out.alloc _)
      case d0 =>
        refine ⟨_, rfl, ?_⟩
        have hlt2 := HOWN.out.lt
        refine bts_fr (w1 := w1) ?_ HB.out.size ?_
        · exact owns_grow HO2.out ((Grow.refl _).alloc _)
        · intro q hq
          simp only [List.mem_singleton]
          intro e
          have := (hlt2 q e.symm).2
          omega
      case d1 => simp
      case d2 => simp; omega
      case d3 => have := (HB2.out.alloc (.cells #[.slice a2 r.length cap2] 69)).size; have := HB.out.size; omega
      intro a5 c5 w5 hown5 hg5 hb5
      have hG5 : Grow w w5 := grow_by (w0 := w) (HB.out.trans (HB2.out.alloc _)) hg5 (fun q hq => (HOWN.out.lt q hq).1)
      have HO5 := Lib.hid (hown5.mono (fr_app hg5 (hb5.imp_right fun ⟨g, e, hge⟩ => ⟨g, e, by simpa using hge⟩)))
      have HG5 := Lib.hid hG5
      clear hown5 hg5 hb5 hG5
      go_wp2
      refine bodyPost_ret (v := .tuple #[.slice a5 (l.length + [r].length) c5, .int .i64 0]) (by simp [results, Try.results67, go_sem]) rfl ?_
      rw [HE2.out]
      exact ⟨_, rfl, HO5.out, HG5.out⟩
    · have HE2 := Lib.hid (show twiceB l i = (l, 0) by rw [HE.out, if_neg h24])
      clear HE HP
      go_enter Try.func67, Try.ntmps67
      go_wp2_with fail
      refine HON.out.mono ?_
      rintro e w1 ⟨v1, rfl, hown, hb⟩
      obtain ⟨av, cv, rfl⟩ := hown.form
      have HOWN := Lib.hid hown
      have HB := Lib.hid hb
      clear hown hb
      go_wp2
      refine bodyPost_ret (v := .tuple #[.slice av l.length cv, .int .i64 0]) (by simp [results, Try.results67, go_sem]) rfl ?_
      rw [HE2.out]
      exact ⟨_, rfl, HOWN.out, HB.out⟩
  · have HE := Lib.hid (show twiceB l n = (l, 6) by unfold twiceB; rw [if_neg hin])
    have hcase : n < 0 ∨ (0 ≤ n ∧ (l.length : Int) ≤ n) := by omega
    clear hin hel HP
    rcases hcase with h0 | ⟨h0, h9⟩
    all_goals
      go_enter Try.func67, Try.ntmps67
      go_wp2_with fail
      refine HON.out.mono ?_
      rintro e w1 ⟨v1, rfl, hown, hb⟩
      obtain ⟨av, cv, rfl⟩ := hown.form
      have HOWN := Lib.hid hown
      have HB := Lib.hid hb
      clear hown hb
      go_wp2
      refine bodyPost_ret (v := .tuple #[.slice av l.length cv, .int .i64 6]) (by simp [results, Try.results67, go_sem]) rfl ?_
      rw [HE.out]
      exact ⟨_, rfl, HOWN.out, HB.out⟩
end Go.Proofs.Ytgbhpghgohggcaa

/- Walks: net.Take. -/
namespace Go.Proofs.Ytgbhpghgohggcaa
open Go.RowKit
/-- the message at a place, and what is left -/
def takeB (l : List (List UInt8)) (n : Int) : List (List UInt8) × Ms × Int :=
  if 0 ≤ n ∧ n < l.length then (l.eraseIdx n.toNat, readB (l.getD n.toNat [])) else (l, ms0, 6)
theorem fr_out {w W1 w' w'' : World} {X X' : List (Option Nat)} (hW : w.heap.size ≤ W1.heap.size) (h : ∀ k, W1.heap.size ≤ k → k < w'.heap.size → some k ∉ X → w''.heap[k]? = w'.heap[k]? ∧ some k ∉ X') : Sub (fr W1 w' X) (fr w w'' X') := fun a v e => by
  unfold fr at e
  split at e
  · cases e
  · rename_i hn
    have h1 : ¬ a.block < W1.heap.size := fun hx => hn (.inl hx)
    have h2 : some a.block ∉ X := fun hx => hn (.inr hx)
    obtain ⟨h3, h4⟩ := h a.block (by omega) (World.block_lt_of_cell? w' a e) h2
    rw [fr_new (by omega) h4, World.cell?_of_block h3]
    exact e
/-- one element less -/
theorem OwnC.erase {α : Type} {T : Ty α} {c c' : CM} {w' : World} {base e g cap i : Nat} {l : List α} {css : List (List Value)} (h2 : css.length = l.length) (h3 : ∀ (i : Nat) (cs : List Value) (x : α), css[i]? = some cs → l[i]? = some x → T.R c cs x) (hs : Sub c c') (hi : i < l.length)
    (hnew : w'.ownsRow base e T.size (.slice (some ⟨g, 0, none⟩) (l.length - 1) cap) (l.length - 1) (css.flatten.take (i * T.size) ++ css.flatten.drop ((i + 1) * T.size))) : OwnC T c' w' base e (.slice (some ⟨g, 0, none⟩) (l.length - 1) cap) (l.eraseIdx i) := by
  have hcl := css_len h2 h3
  refine ⟨css.eraseIdx i, ?_, ?_, ?_⟩
  · have e : (css.eraseIdx i).flatten = css.flatten.take (i * T.size) ++ css.flatten.drop ((i + 1) * T.size) := by
      rw [flatten_take css i hcl, flatten_drop css (i + 1) hcl, List.eraseIdx_eq_take_drop_succ, List.flatten_append]
    rw [e, List.length_eraseIdx_of_lt hi]
    exact hnew
  · rw [List.length_eraseIdx_of_lt hi, List.length_eraseIdx_of_lt (by omega), h2]
  · intro j cs x a e
    rw [List.getElem?_eraseIdx] at a e
    by_cases hj : j < i
    · rw [if_pos hj] at a e
      exact T.mono hs (h3 j cs x a e)
    · rw [if_neg hj] at a e
      exact T.mono hs (h3 (j + 1) cs x a e)
set_option maxRecDepth 100000 in
set_option maxHeartbeats 2000000 in
theorem net_take {v : Value} {l : List (List UInt8)} {n : Int} (w : World) (hv : Nts w.cell? v l) (hm : l.length * 24 ≤ 140737488355328) (hp : ∀ b ∈ l, b.length ≤ 140737488355328) :
    Calls Try.prog 66 #[v, .int .i64 n] w fun e w' => ∃ v' vm, e = .returned (.tuple #[v', vm, .int .i64 (takeB l n).2.2]) ∧ OwnC Ty.bs (fr w w' [v'.ownBlock]) w' w.heap.size 69 v' (takeB l n).1 ∧ Of Ty.ms (ov (fun _ => none) w w') vm (takeB l n).2.1 ∧ Grow w w' := by
  have HON := Lib.hid (fun (W : World) (hW : Grow w W) => net_own W (hv.mono hW.sub) hm hp)
  obtain ⟨a, cap, rfl, h1, h2, -, hel⟩ := hv
  unfold maxLen at h2
  clear hm hp
  by_cases hin : 0 ≤ n ∧ n < l.length
  · obtain ⟨i, rfl⟩ : ∃ i : Nat, n = i := ⟨n.toNat, by omega⟩
    have hi : i < l.length := by omega
    obtain ⟨b, o, vp, rfl, c0, hP⟩ := Nts.at_ hel i hi
    obtain ⟨aq, cq, rfl, -⟩ := id hP
    have hgd : l.getD i [] = l[i] := by rw [List.getD_eq_getElem?_getD, List.getElem?_eq_getElem hi]; rfl
    have HE := Lib.hid (show takeB l i = (l.eraseIdx i, readB l[i]) by unfold takeB; rw [if_pos hin, Int.toNat_natCast, hgd])
    have HRD := Lib.hid (fun (W : World) (hW : Grow w W) => wire_read W (hP.mono hW.sub))
    have HEL : Hid ((l.eraseIdx i).length = l.length - 1) := Lib.hid (List.length_eraseIdx_of_lt hi)
    clear hel hP hgd hin
    have zb := World.block_lt_of_cell? w _ c0
    simp only at zb
    generalize l[i].length = nb at *
    generalize readB l[i] = rd at *
    obtain ⟨x, er⟩ := rd
    go_enter Try.func66, Try.ntmps66
    go_wp2_with fail
    refine (HRD.out _ ((Grow.refl _).alloc _)).mono ?_
    rintro e w1 ⟨v1, rfl, hx, hb1⟩
    obtain ⟨ap, cp, rfl⟩ := hx.ms_form
    have R5 := Lib.hid (row_grow (row_new w (.cells #[.int .i64 0, .int .i64 0, .int .i64 0, .slice none 0 0] 39)) hb1)
    have G1 := Lib.hid (((Grow.refl w).alloc (.cells #[.int .i64 0, .int .i64 0, .int .i64 0, .slice none 0 0] 39)).trans hb1)
    have HX := Lib.hid hx
    clear hx hb1 c0
    go_wp2_with fail
    obtain ⟨wq, hwq⟩ : ∃ y : World, y = w1.alloc (.cells #[.int .i64 x.kind, .int .i64 x.deed, .int .i64 x.house, .slice ap x.parts.length cp] 39) := ⟨_, rfl⟩
    have R7 : Hid (wq.heap[w1.heap.size]? = some (.cells #[.int .i64 x.kind, .int .i64 x.deed, .int .i64 x.house, .slice ap x.parts.length cp] 39 (0, 0))) := Lib.hid (by rw [hwq]; exact row_new _ _)
    have R5Q : Hid (wq.heap[w.heap.size]? = some (.cells #[.int .i64 0, .int .i64 0, .int .i64 0, .slice none 0 0] 39 (0, 0))) := Lib.hid (by rw [hwq]; exact heap_later R5.out _)
    have G1Q : Hid (Grow w1 wq) := Lib.hid (by rw [hwq]; exact (Grow.refl _).alloc _)
    have HZ1 : Hid (w.heap.size < w1.heap.size) := Lib.hid (Array.getElem?_eq_some_iff.1 R5.out).1
    rw [← hwq]
    clear hwq R5
    obtain ⟨B7, hB7⟩ : ∃ B, B = w1.heap.size := ⟨_, rfl⟩
    rw [← hB7] at R7 ⊢
    have HB7 := Lib.hid hB7
    clear hB7
    have hwr : IntKind.i64.wrap ((i : Int) + 1) = (i : Int) + 1 := IntWalk.i64_in _ (by omega)
    have HS : Hid (∀ W : World, W.heap[B7]? = some (.cells #[.int .i64 x.kind, .int .i64 x.deed, .int .i64 x.house, .slice ap x.parts.length cp] 39 (0, 0)) → W.cell? ⟨B7, 0, none⟩ = some (.int .i64 x.kind) ∧ W.cell? ⟨B7, 1, none⟩ = some (.int .i64 x.deed) ∧ W.cell? ⟨B7, 2, none⟩ = some (.int .i64 x.house) ∧ W.cell? ⟨B7, 3, none⟩ = some (.slice ap x.parts.length cp)) := fun W hW => cells4 hW

    refine but_start (fun w' => w'.cell? ⟨B7, 0, none⟩ = some (.int .i64 x.kind) ∧ w'.cell? ⟨B7, 1, none⟩ = some (.int .i64 x.deed) ∧ w'.cell? ⟨B7, 2, none⟩ = some (.int .i64 x.house) ∧ w'.cell? ⟨B7, 3, none⟩ = some (.slice ap x.parts.length cp)) 10 (by kernel_rfl) ?_
    obtain ⟨wd, hWd⟩ : ∃ x : World, x = wq.drew := ⟨_, rfl⟩
    rw [← hWd]
    have GD : Grow wq wd := by rw [hWd]; exact (Grow.refl _).drew
    have zD : wq.heap.size = wd.heap.size := by rw [hWd]; rfl
    have ZD := Lib.hid zD
    clear hWd zD
    refine but_take (i := 0) (v := ?_) 13 rfl (by kernel_rfl) (by kernel_rfl) (by kernel_rfl) (by kernel_rfl) (by kernel_rfl) (fun _ _ _ h => h) (HS.out _ (row_grow R7.out GD)) (Or.inl ⟨by rfl, ?_⟩) ?_
    rotate_left
    · (intro w' hSw; (try dsimp only at hSw); obtain ⟨hs0, hs1, hs2, hs3⟩ := hSw; go_simp <;> with_reducible rfl)
    try simp only [Act.put, List.getElem_toArray, List.getElem_cons_zero, List.setIfInBounds_toArray, List.set_cons_zero, List.set_cons_succ]
    refine but_take (i := 2) (v := ?_) 13 rfl (by kernel_rfl) (by kernel_rfl) (by kernel_rfl) (by kernel_rfl) (by kernel_rfl) (fun _ _ _ h => h) (HS.out _ (row_grow R7.out GD)) (Or.inl ⟨by rfl, ?_⟩) ?_
    rotate_left
    · (intro w' hSw; (try dsimp only at hSw); obtain ⟨hs0, hs1, hs2, hs3⟩ := hSw; go_simp <;> with_reducible rfl)
    try simp only [Act.put, List.getElem_toArray, List.getElem_cons_succ, List.getElem_cons_zero, List.setIfInBounds_toArray, List.set_cons_zero, List.set_cons_succ]
    refine but_take (i := 3) (v := ?_) 13 rfl (by kernel_rfl) (by kernel_rfl) (by kernel_rfl) (by kernel_rfl) (by kernel_rfl) (fun _ _ _ h => h) (HS.out _ (row_grow R7.out GD)) (Or.inl ⟨by rfl, ?_⟩) ?_
    rotate_left
    · (intro w' hSw; (try dsimp only at hSw); obtain ⟨hs0, hs1, hs2, hs3⟩ := hSw; go_simp <;> with_reducible rfl)
    try simp only [Act.put, List.getElem_toArray, List.getElem_cons_succ, List.getElem_cons_zero, List.setIfInBounds_toArray, List.set_cons_zero, List.set_cons_succ]
    refine but_take (i := 4) (v := ?_) 13 rfl (by kernel_rfl) (by kernel_rfl) (by kernel_rfl) (by kernel_rfl) (by kernel_rfl) (fun _ _ _ h => h) (HS.out _ (row_grow R7.out GD)) (Or.inl ⟨by rfl, ?_⟩) ?_
    rotate_left
    · (intro w' hSw; (try dsimp only at hSw); obtain ⟨hs0, hs1, hs2, hs3⟩ := hSw; go_simp <;> with_reducible rfl)
    try simp only [Act.put, List.getElem_toArray, List.getElem_cons_succ, List.getElem_cons_zero, List.setIfInBounds_toArray, List.set_cons_zero, List.set_cons_succ]
    refine but_take (i := 6) (v := ?_) 13 rfl (by kernel_rfl) (by kernel_rfl) (by kernel_rfl) (by kernel_rfl) (by kernel_rfl) (fun _ _ _ h => h) (HS.out _ (row_grow R7.out GD)) (Or.inl ⟨by rfl, ?_⟩) ?_
    rotate_left
    · (intro w' hSw; (try dsimp only at hSw); obtain ⟨hs0, hs1, hs2, hs3⟩ := hSw; go_simp <;> with_reducible rfl)
    try simp only [Act.put, List.getElem_toArray, List.getElem_cons_succ, List.getElem_cons_zero, List.setIfInBounds_toArray, List.set_cons_zero, List.set_cons_succ]
    refine but_take (i := 7) (v := ?_) 13 rfl (by kernel_rfl) (by kernel_rfl) (by kernel_rfl) (by kernel_rfl) (by kernel_rfl) (fun _ _ _ h => h) (HS.out _ (row_grow R7.out GD)) (Or.inl ⟨by rfl, ?_⟩) ?_
    rotate_left
    · (intro w' hSw; (try dsimp only at hSw); obtain ⟨hs0, hs1, hs2, hs3⟩ := hSw; go_simp <;> with_reducible rfl)
    try simp only [Act.put, List.getElem_toArray, List.getElem_cons_succ, List.getElem_cons_zero, List.setIfInBounds_toArray, List.set_cons_zero, List.set_cons_succ]
    refine but_one (i := 1) (by kernel_rfl) rfl ?_
    intro K HK'
    have HK := Lib.hid HK'
    clear HK'
    skip
    try simp only [List.getElem_toArray, List.getElem_cons_succ, List.getElem_cons_zero]
    go_simp
    go_at_call 65
    refine (HON.out wd (G1.out.trans (G1Q.out.trans GD))).mono ?_
    rintro e2 w2 ⟨v2, rfl, hown, hb2⟩
    have HLT := Lib.hid hown.lt
    have HB2 := Lib.hid hb2
    have R7_2 := Lib.hid (row_grow (row_grow R7.out GD) hb2)
    have R5_2 := Lib.hid (row_grow (row_grow R5Q.out GD) hb2)
    obtain ⟨css, k1, k2, k3⟩ := id hown
    obtain ⟨-, ⟨-, hn⟩ | ⟨g, cap2, cur, rfl, -⟩⟩ := id k1
    · omega
    have K1 := Lib.hid k1
    have K2 := Lib.hid k2
    have K3 := Lib.hid k3
    have HZQ : Hid (B7 < wd.heap.size) := Lib.hid (by have := (Array.getElem?_eq_some_iff.1 (row_grow R7.out GD)).1; exact this)
    have HGG : Hid (wd.heap.size ≤ g) := Lib.hid ((HLT.out g rfl).1)
    clear hown hb2 k1 k2 k3
    refine HK.out _ _ ⟨fun _ => HS.out _ R7_2.out, ?_⟩
    clear HK K
    try simp only [Act.put, List.getElem_toArray, List.getElem_cons_succ, List.getElem_cons_zero, List.setIfInBounds_toArray, List.set_cons_zero, List.set_cons_succ]
    refine but_one (i := 5) (by kernel_rfl) rfl ?_
    intro K HK'
    have HK := Lib.hid HK'
    clear HK'
    skip
    try simp only [List.getElem_toArray, List.getElem_cons_succ, List.getElem_cons_zero]
    go_simp
    go_at_call 132
    refine (delete_bts (i := i) K1.out hi (fun u hu => ?one)).mono ?_
    case one =>
      obtain ⟨cs, hcs, huc⟩ := List.mem_flatten.1 hu
      obtain ⟨j, hj, rfl⟩ := List.mem_iff_getElem.1 hcs
      exact one_Tsl Ty.byte _ _ _ (K3.out j css[j] l[j] (by simp) (by have := K2.out; simp)) u huc
    rintro e3 w3 ⟨rfl, ho3, hg3⟩
    have HO3 := Lib.hid ho3
    have HG3 := Lib.hid hg3
    have R7_3 := Lib.hid (row_by R7_2.out hg3 (by have := HZQ.out; have := HGG.out; intro e9; have := Option.some.inj e9; omega))
    have R5_3 := Lib.hid (row_by R5_2.out hg3 (by have := HZQ.out; have := HGG.out; have := HZ1.out; have := HB7.out; intro e9; have := Option.some.inj e9; omega))
    clear ho3 hg3
    refine HK.out _ _ ⟨fun _ => HS.out _ R7_3.out, ?_⟩
    clear HK K
    try simp only [Act.put, List.getElem_toArray, List.getElem_cons_succ, List.getElem_cons_zero, List.setIfInBounds_toArray, List.set_cons_zero, List.set_cons_succ]
    refine but_one (i := 8) (by kernel_rfl) rfl ?_
    intro K HK'
    have HK := Lib.hid HK'
    clear HK'
    skip
    try simp only [List.getElem_toArray, List.getElem_cons_succ, List.getElem_cons_zero]
    go_simp
    refine HK.out _ _ ⟨fun _ => HS.out _ R7_3.out, ?_⟩
    clear HK K
    try simp only [Act.put, List.getElem_toArray, List.getElem_cons_succ, List.getElem_cons_zero, List.setIfInBounds_toArray, List.set_cons_zero, List.set_cons_succ]
    refine but_one (i := 9) (by kernel_rfl) rfl ?_
    intro K HK'
    have HK := Lib.hid HK'
    clear HK'
    refine wanted_go rfl ?_
    try simp only [List.getElem_toArray, List.getElem_cons_succ, List.getElem_cons_zero]
    refine wp_store_row (.tmp 5) (.tmp 34) rfl rfl rfl R5_3.out info_ms rfl rfl ?_
    intro w4 r4 g4
    refine HK.out _ _ ⟨fun _ => HS.out _ (row_by R7_3.out g4 (by have := HZ1.out; have := HB7.out; intro e9; have := Option.some.inj e9; omega)), ?_⟩
    clear HK K
    try simp only [Act.put]
    refine but_one (i := 10) (by kernel_rfl) rfl ?_
    intro K HK'
    have HK := Lib.hid HK'
    clear HK'
    skip
    try simp only [List.getElem_toArray, List.getElem_cons_succ, List.getElem_cons_zero]
    go_simp
    refine HK.out _ _ ⟨fun h => absurd rfl h, ?_⟩
    clear HK K
    try simp only [Act.put, List.getElem_toArray, List.getElem_cons_succ, List.getElem_cons_zero, List.setIfInBounds_toArray, List.set_cons_zero, List.set_cons_succ]
    refine but_done (by kernel_rfl) ?_
    obtain ⟨p0, p1, p2, p3⟩ := cells4 r4
    go_wp2
    refine bodyPost_ret (v := .tuple #[.slice (some ⟨g, 0, none⟩) (l.length - 1) cap2, .agg #[.int .i64 x.kind, .int .i64 x.deed, .int .i64 x.house, .slice ap x.parts.length cp], .int .i64 er]) (by simp [results, Try.results66, go_sem, p0, p1, p2, p3]) rfl ?_
    rw [HE.out]
    have hz := HZ1.out
    have hzq := HZQ.out
    have hgg := HGG.out
    have hb7 := HB7.out
    have hw2 := HB2.out.size
    have GW2 : Grow w w2 := G1.out.trans (G1Q.out.trans (GD.trans HB2.out))
    have GW3 : Grow w w3 := GW2.grown HG3.out (fun q hq => by obtain rfl := Option.some.inj hq; omega)
    have GW4 : Grow w w4 := GW3.grown g4 (fun q hq => by obtain rfl := Option.some.inj hq; omega)
    refine ⟨_, _, rfl, ?_, ?_, GW4⟩
    · refine ((OwnC.erase (T := Ty.bs) K2.out K3.out (c' := fr w w4 [some g]) ?_ hi HO3.out).kept g4 (.inr (by simp [Value.ownBlock]; omega))).base (b' := w.heap.size) (by omega)
      refine fr_out (by omega) fun k hk hk2 hk3 => ?_
      have hkg : k ≠ g := by simpa [Value.ownBlock] using hk3
      refine ⟨?_, by simpa using hkg⟩
      rw [g4.block k (Nat.lt_of_lt_of_le hk2 HG3.out.size) (fun e9 => by have := Option.some.inj e9; omega), HG3.out.block k hk2 (fun e9 => hkg (Option.some.inj e9))]
    · refine HX.out.mono fun a9 u9 e9 => ?_
      unfold ov at e9 ⊢
      split at e9
      · cases e9
      · rename_i hn9
        have hl9 := World.block_lt_of_cell? w1 a9 e9
        have hn8 : w.heap.size + 1 ≤ a9.block := by simp at hn9; omega
        rw [if_neg (by omega)]
        have e8 := HB2.out.sub _ _ (GD.sub _ _ (G1Q.out.sub _ _ e9))
        rw [by_cell g4 (by have := HG3.out.size; omega) (by omega), by_cell HG3.out (by omega) (by omega)]
        exact e8
  · have HE := Lib.hid (show takeB l n = (l, ms0, 6) by unfold takeB; rw [if_neg hin])
    have hcase : n < 0 ∨ (0 ≤ n ∧ (l.length : Int) ≤ n) := by omega
    clear hin hel
    rcases hcase with h0 | ⟨h0, h9⟩
    all_goals
      go_enter Try.func66, Try.ntmps66
      go_wp2_with fail
      refine (HON.out _ ((Grow.refl _).alloc _)).mono ?_
      rintro e w1 ⟨v1, rfl, hown, hb⟩
      obtain ⟨av, cv, rfl⟩ := hown.form
      have HLT := Lib.hid hown.lt
      have HOWN := Lib.hid hown
      have R5 := Lib.hid (row_grow (row_new w (.cells #[.int .i64 0, .int .i64 0, .int .i64 0, .slice none 0 0] 39)) hb)
      have HB := Lib.hid (((Grow.refl w).alloc (.cells #[.int .i64 0, .int .i64 0, .int .i64 0, .slice none 0 0] 39)).trans hb)
      have HBS : Hid (w.heap.size + 1 ≤ w1.heap.size) := Lib.hid (by have := hb.size; simp at this; omega)
      clear hown hb
      go_wp2_with (first | (refine wpList_store_row rfl (.tmp 5) (.tmp 19) rfl rfl rfl R5.out info_ms rfl rfl ?_))
      intro w4 r4 g4
      obtain ⟨p0, p1, p2, p3⟩ := cells4 r4
      go_wp2
      refine bodyPost_ret (v := .tuple #[.slice av l.length cv, .agg #[.int .i64 0, .int .i64 0, .int .i64 0, .slice none 0 0], .int .i64 6]) (by simp [results, Try.results66, go_sem, p0, p1, p2, p3]) rfl ?_
      rw [HE.out]
      refine ⟨_, _, rfl, ((HOWN.out.mono ?_).kept g4 ?_).base (b' := w.heap.size) (by simp), of_ms0 _, HB.out.grown g4 (fun q hq => by obtain rfl := Option.some.inj hq; exact Nat.le_refl _)⟩
      · refine fr_out (by simp) fun k hk hk2 hk3 => ⟨g4.block k hk2 (fun e9 => by have := Option.some.inj e9; simp at hk; omega), hk3⟩
      · cases e9 : (Value.slice av l.length cv).ownBlock with
        | none => exact .inl rfl
        | some q => exact .inr (by have := (HLT.out q e9).1; simp at this; intro e8; have := Option.some.inj e8; omega)
end Go.Proofs.Ytgbhpghgohggcaa

/- The closed fact that chapter 9's laws ask first, walked. -/
namespace Go.Proofs.Ytgbhpghgohggcaa
open Go.RowKit
theorem RightM.ptsOk {m : Ms} (h : RightM m) : PtsOk m.parts ∧ I64 m.deed ∧ I64 m.house ∧ I64 (m.parts.length : Int) := by
  have hp := h.pts
  have hl := h.len
  have hd := h.deed
  have hh := h.house
  exact ⟨fun p hp' => by have := hp p hp'; exact ⟨i64_of (by omega) (by omega), i64_of (by omega) (by omega), i64_of (by omega) (by omega)⟩, i64_of (by omega) (by omega), i64_of (by omega) (by omega), i64_of (by omega) (by omega)⟩
theorem bytesM_le {m : Ms} (h : wrongM m = 0) : (bytesM m).length ≤ 200 := by
  have hr := right_m.1 h
  obtain ⟨h1, h2, h3, h4⟩ := hr.ptsOk
  have hl := hr.len
  have a1 := numB_len (i64_bounds h2).1 (i64_bounds h2).2
  have a2 := numB_len (i64_bounds h3).1 (i64_bounds h3).2
  have a3 := numB_len (i64_bounds h4).1 (i64_bounds h4).2
  have a4 := partsBytes_len h1
  unfold bytesM
  rw [seal_len]
  unfold msgHead
  simp only [List.length_cons, List.length_append]
  omega
def m9a : Ms := ⟨2, 70, 0, []⟩
def m9b : Ms := ⟨3, 71, 0, []⟩
theorem w9a : wrongM m9a = 0 := by decide
theorem w9b : wrongM m9b = 0 := by decide
theorem send9 : sendB [] [m9a, m9b] = [bytesM m9a, bytesM m9b] := rfl
theorem twice9 : twiceB [bytesM m9a, bytesM m9b] 0 = ([bytesM m9a, bytesM m9b, bytesM m9a], 0) := by
  unfold twiceB
  rw [if_pos (by simp), if_pos (by simp)]
  rfl
theorem take9 : takeB [bytesM m9a, bytesM m9b, bytesM m9a] 1 = ([bytesM m9a, bytesM m9a], m9b, 0) := by
  unfold takeB
  rw [if_pos (by simp)]
  show (_, readB (bytesM m9b)) = _
  rw [read_bytes w9b]
  rfl
set_option maxRecDepth 100000 in
set_option maxHeartbeats 1000000 in
theorem alive9 (w : World) : Calls Try.prog 71 #[] w fun e w' => e = .returned (.bool true) ∧ Grow w w' := by
  have i2 : I64 2 := by unfold I64; decide
  have i3 : I64 3 := by unfold I64; decide
  have i70 : I64 70 := by unfold I64; decide
  have i71 : I64 71 := by unfold I64; decide
  have i0 : I64 0 := zero_ok
  have HL : Hid (∀ b ∈ [bytesM m9a, bytesM m9b, bytesM m9a], b.length ≤ 140737488355328) := Lib.hid (by
    have h1 := bytesM_le w9a
    have h2 := bytesM_le w9b
    intro b hb
    simp only [List.mem_cons, List.not_mem_nil, or_false] at hb
    rcases hb with rfl | rfl | rfl <;> omega)
  have HL2 : Hid (∀ b ∈ [bytesM m9a, bytesM m9b], b.length ≤ 140737488355328) := Lib.hid (by
    have h1 := bytesM_le w9a
    have h2 := bytesM_le w9b
    intro b hb
    simp only [List.mem_cons, List.not_mem_nil, or_false] at hb
    rcases hb with rfl | rfl <;> omega)
  have HM : Hid (Mss (w.alloc (.cells #[.int .i64 2, .int .i64 70, .int .i64 0, .slice none 0 0, .int .i64 3, .int .i64 71, .int .i64 0, .slice none 0 0] 39)).cell? (.slice (some ⟨w.heap.size, 0, none⟩) 2 2) [m9a, m9b]) := Lib.hid
    (Sl.lit (T := Ty.ms) w [[.int .i64 2, .int .i64 70, .int .i64 0, .slice none 0 0], [.int .i64 3, .int .i64 71, .int .i64 0, .slice none 0 0]] (by decide) (Grow.refl _) rfl rfl (by decide) rfl ⟨⟨_, rfl, i2, i70, i0, Sl.nil _ _⟩, ⟨_, rfl, i3, i71, i0, Sl.nil _ _⟩, trivial⟩)
  have HS := Lib.hid (net_send (l := []) (ms := [m9a, m9b]) (v := .slice none 0 0) (w.alloc (.cells #[.int .i64 2, .int .i64 70, .int .i64 0, .slice none 0 0, .int .i64 3, .int .i64 71, .int .i64 0, .slice none 0 0] 39)) (Sl.nil _ _) HM.out (by
    intro m hm
    simp only [List.mem_cons, List.not_mem_nil, or_false] at hm
    rcases hm with rfl | rfl
    · exact w9a
    · exact w9b) (by decide) (by intro b hb; simp at hb))
  rw [send9] at HS
  clear i2 i3 i70 i71 i0
  go_enter Try.func71, Try.ntmps71
  go_wp2_with fail
  refine HS.out.mono ?_
  rintro e w1 ⟨v1, rfl, hown, hb⟩
  obtain ⟨a1, k1, rfl⟩ := hown.form
  have HN1 := Lib.hid (hown.sl (by decide) (fr_sub _ _ _))
  have G1 := Lib.hid (((Grow.refl w).alloc (.cells #[.int .i64 2, .int .i64 70, .int .i64 0, .slice none 0 0, .int .i64 3, .int .i64 71, .int .i64 0, .slice none 0 0] 39)).trans hb)
  have HT := Lib.hid (net_twice (n := 0) w1 HN1.out (by simp) HL2.out)
  rw [twice9] at HT
  simp only [List.length_cons, List.length_nil, Nat.zero_add, Nat.reduceAdd] at *
  clear hown hb HS
  go_wp2_with fail
  refine HT.out.mono ?_
  rintro e w2 ⟨v2, rfl, hown, hb⟩
  obtain ⟨a2, k2, rfl⟩ := hown.form
  have HN2 := Lib.hid (hown.sl (by decide) (fr_sub _ _ _))
  have G2 := Lib.hid (G1.out.trans hb)
  have HN1' := Lib.hid (HN1.out.mono hb.sub)
  have HK := Lib.hid (net_take (n := 1) w2 HN2.out (by simp) HL.out)
  rw [take9] at HK
  simp only [List.length_cons, List.length_nil, Nat.zero_add, Nat.reduceAdd] at *
  clear hown hb HT
  go_wp2_with fail
  refine HK.out.mono ?_
  rintro e w3 ⟨v3, vm, rfl, hown, hx, hb⟩
  obtain ⟨a3, k3, rfl⟩ := hown.form
  obtain ⟨ap, cp, rfl⟩ := hx.ms_form
  have G3 := Lib.hid ((G2.out.trans hb).alloc (.cells #[.int .i64 m9b.kind, .int .i64 m9b.deed, .int .i64 m9b.house, .slice ap m9b.parts.length cp] 39))
  have HN3 := Lib.hid (HN1'.out.mono (hb.alloc (.cells #[.int .i64 m9b.kind, .int .i64 m9b.deed, .int .i64 m9b.house, .slice ap m9b.parts.length cp] 39)).sub)
  simp only [List.length_cons, List.length_nil, Nat.zero_add, Nat.reduceAdd] at *
  clear hown hb hx HK
  rw [show m9b.kind = 3 from rfl, show m9b.deed = 71 from rfl, show m9b.house = 0 from rfl, show m9b.parts.length = 0 from rfl] at *
  have HO := Lib.hid (net_own _ HN3.out (by simp) HL2.out)
  go_wp2_with fail
  refine HO.out.mono ?_
  rintro e w4 ⟨v4, rfl, hown, hb⟩
  obtain ⟨a4, k4, rfl⟩ := hown.form
  simp only [List.length_cons, List.length_nil, Nat.zero_add, Nat.reduceAdd] at *
  have G4 := Lib.hid (G3.out.trans hb)
  clear hown hb
  go_wp2
  go_ret
  exact ⟨rfl, G4.out⟩
end Go.Proofs.Ytgbhpghgohggcaa

/- The law NetTwice, walked. -/
namespace Go.Proofs.Ytgbhpghgohggcaa
open Go.RowKit
theorem take_at {l : List (List UInt8)} {i : Nat} (h : i < l.length) : takeB l i = (l.eraseIdx i, readB l[i]) := by
  unfold takeB
  rw [if_pos (by omega), Int.toNat_natCast, List.getD_eq_getElem?_getD, List.getElem?_eq_getElem h]
  rfl
theorem take_last (l : List (List UInt8)) (r : List UInt8) : takeB (l ++ [r]) l.length = (l, readB r) := by
  rw [take_at (by simp)]
  simp [List.eraseIdx_append_of_length_le]
theorem take_mid {l : List (List UInt8)} {i : Nat} (r : List UInt8) (h : i < l.length) : takeB (l ++ [r]) i = (l.eraseIdx i ++ [r], readB l[i]) := by
  rw [take_at (by simp; omega), List.eraseIdx_append_of_lt_length h, List.getElem_append_left h]
set_option maxRecDepth 100000 in
set_option maxHeartbeats 4000000 in
theorem netTwice_walk {v : Value} {l : List (List UInt8)} {n : Int} (w : World) (hv : Nts w.cell? v l) (hs : l.length * 24 ≤ 140737488351232) (hp0 : ∀ b ∈ l, b.length * 1 ≤ 140737488351232) (hn : I64 n) :
    Calls Try.prog 15 #[v, .int .i64 n] w fun e w' => e = .returned (.bool true) ∧ Grow w w' := by
  have HAL := Lib.hid (alive9 w)
  have hp : ∀ b ∈ l, b.length ≤ 140737488355328 := fun b hb => by have := hp0 b hb; omega
  have HV := Lib.hid hv
  obtain ⟨av, cv, rfl, h1, h2, -, -⟩ := id hv
  unfold maxLen at h2
  by_cases h0 : n < 0
  · go_enter Try.func15, Try.ntmps15
    go_wp2_with fail
    refine HAL.out.mono ?_
    rintro e w1 ⟨rfl, hb1⟩
    go_wp2
    go_ret
    exact ⟨rfl, hb1⟩
  by_cases h3 : (l.length : Int) ≤ n
  · go_enter Try.func15, Try.ntmps15
    go_wp2_with fail
    refine HAL.out.mono ?_
    rintro e w1 ⟨rfl, hb1⟩
    go_wp2
    go_ret
    exact ⟨rfl, hb1⟩
  by_cases h24 : 24 ≤ l.length
  · go_enter Try.func15, Try.ntmps15
    go_wp2_with fail
    refine HAL.out.mono ?_
    rintro e w1 ⟨rfl, hb1⟩
    go_wp2
    go_ret
    exact ⟨rfl, hb1⟩
  obtain ⟨i, rfl⟩ : ∃ i : Nat, n = i := ⟨n.toNat, by omega⟩
  have hi : i < l.length := by omega
  have hgd : l.getD i [] = l[i] := by rw [List.getD_eq_getElem?_getD, List.getElem?_eq_getElem hi]; rfl
  have E1 := Lib.hid (show twiceB l i = (l ++ [l[i]], 0) by unfold twiceB; rw [if_pos (by omega), if_pos (by omega), Int.toNat_natCast, hgd])
  have E2 := Lib.hid (take_last l l[i])
  have E3 := Lib.hid (take_mid l[i] hi)
  have hel1 : (l.eraseIdx i).length = l.length - 1 := List.length_eraseIdx_of_lt hi
  have E4 := Lib.hid (show takeB (l.eraseIdx i ++ [l[i]]) ((l.length : Int) - 1) = (l.eraseIdx i, readB l[i]) by
    rw [show (l.length : Int) - 1 = ((l.eraseIdx i).length : Int) by rw [hel1]; omega]
    exact take_last _ _)
  have E5 := Lib.hid (take_at hi)
  have hri := hp _ (List.getElem_mem hi)
  have HPX : Hid (∀ b ∈ l ++ [l[i]], b.length ≤ 140737488355328) := Lib.hid (fun b hb => by
    rcases List.mem_append.1 hb with hb | hb
    · exact hp b hb
    · simp only [List.mem_singleton] at hb; rw [hb]; exact hri)
  have HPZ : Hid (∀ b ∈ l.eraseIdx i ++ [l[i]], b.length ≤ 140737488355328) := Lib.hid (fun b hb => by
    rcases List.mem_append.1 hb with hb | hb
    · exact hp b (List.mem_of_mem_eraseIdx hb)
    · simp only [List.mem_singleton] at hb; rw [hb]; exact hri)
  have HLX : Hid ((l ++ [l[i]]).length = l.length + 1) := Lib.hid (by simp)
  have HLZ : Hid ((l.eraseIdx i ++ [l[i]]).length = l.length) := Lib.hid (by rw [List.length_append, hel1]; simp; omega)
  have HP := Lib.hid hp
  have HTW := Lib.hid (fun (W : World) (hW : Grow w W) => net_twice (n := (i : Int)) W (hv.mono hW.sub) (by omega) hp)
  have HT4 := Lib.hid (fun (W : World) (hW : Grow w W) => net_take (n := (i : Int)) W (hv.mono hW.sub) (by omega) hp)
  rw [E1.out] at HTW
  rw [E5.out] at HT4
  have hle1 : (1 : Int) ≤ (l.length : Int) := by omega
  clear hv hp hp0 hn hri hgd hel1 E1 E5
  generalize l[i] = r at *
  generalize readB r = rd at *
  obtain ⟨m, er⟩ := rd
  generalize l ++ [r] = x at *
  generalize l.eraseIdx i ++ [r] = z at *
  generalize l.eraseIdx i = y at *
  go_enter Try.func15, Try.ntmps15
  go_wp2_with fail
  refine HAL.out.mono ?_
  rintro e w1 ⟨rfl, hb1⟩
  have G1 := Lib.hid hb1
  clear hb1
  go_wp2_with fail
  refine (HTW.out _ G1.out).mono ?_
  rintro e w2 ⟨v2, rfl, hown, hb⟩
  obtain ⟨a2, k2, rfl⟩ := hown.form
  rw [HLX.out] at hown ⊢
  have HX := Lib.hid (hown.sl (by decide) (fr_sub _ _ _))
  have G2 := Lib.hid (G1.out.trans hb)
  have HKA := Lib.hid (fun (W : World) (hW : Grow w2 W) => net_take (n := (l.length : Int)) W (HX.out.mono hW.sub) (by rw [HLX.out]; omega) HPX.out)
  have HKB := Lib.hid (fun (W : World) (hW : Grow w2 W) => net_take (n := (i : Int)) W (HX.out.mono hW.sub) (by rw [HLX.out]; omega) HPX.out)
  rw [E2.out] at HKA
  rw [E3.out] at HKB
  clear hown hb

  go_wp2_with fail
  refine (HKA.out _ (Grow.refl _)).mono ?_
  rintro e va ⟨vA, vmA, rfl, hown, hx, hb⟩
  obtain ⟨aA, kA, rfl⟩ := hown.form
  obtain ⟨pA, qA, rfl⟩ := hx.ms_form
  have hgw : Grow va (va.alloc (.cells #[.int .i64 m.kind, .int .i64 m.deed, .int .i64 m.house, .slice pA m.parts.length qA] 39)) := (Grow.refl _).alloc _
  have HM0 := (hx.mono (ov_sub (fun _ _ e9 => by cases e9) hb)).mono hgw.sub
  have HN0 := (hown.sl (by decide) (fr_sub _ _ _)).mono hgw.sub
  have GG := hb.trans hgw
  clear hown hx hb hgw
  go_wp2_with fail
  obtain ⟨wa, hwa⟩ : ∃ y : World, y = va.alloc (.cells #[.int .i64 m.kind, .int .i64 m.deed, .int .i64 m.house, .slice pA m.parts.length qA] 39) := ⟨_, rfl⟩
  have RBA : Hid (wa.heap[va.heap.size]? = some (.cells #[.int .i64 m.kind, .int .i64 m.deed, .int .i64 m.house, .slice pA m.parts.length qA] 39 (0, 0))) := Lib.hid (by rw [hwa]; exact row_new _ _)
  rw [← hwa] at HM0 HN0 GG ⊢
  have HMA := Lib.hid HM0
  have HNA := Lib.hid HN0
  have G_wa := Lib.hid (G2.out.trans GG)
  have HGA := Lib.hid GG
  have HG_wa := Lib.hid GG
  clear hwa HM0 HN0 GG
  refine (HKB.out _ HGA.out).mono ?_
  rintro e vb_ ⟨vB, vmB, rfl, hown, hx, hb⟩
  obtain ⟨aB, kB, rfl⟩ := hown.form
  obtain ⟨pB, qB, rfl⟩ := hx.ms_form
  rw [HLZ.out] at hown ⊢
  have hgw : Grow vb_ (vb_.alloc (.cells #[.int .i64 m.kind, .int .i64 m.deed, .int .i64 m.house, .slice pB m.parts.length qB] 39)) := (Grow.refl _).alloc _
  have HM0 := (hx.mono (ov_sub (fun _ _ e9 => by cases e9) hb)).mono hgw.sub
  have HN0 := (hown.sl (by decide) (fr_sub _ _ _)).mono hgw.sub
  have GG := hb.trans hgw
  clear hown hx hb hgw
  go_wp2_with fail
  obtain ⟨wb, hwb⟩ : ∃ y : World, y = vb_.alloc (.cells #[.int .i64 m.kind, .int .i64 m.deed, .int .i64 m.house, .slice pB m.parts.length qB] 39) := ⟨_, rfl⟩
  have RBB : Hid (wb.heap[vb_.heap.size]? = some (.cells #[.int .i64 m.kind, .int .i64 m.deed, .int .i64 m.house, .slice pB m.parts.length qB] 39 (0, 0))) := Lib.hid (by rw [hwb]; exact row_new _ _)
  rw [← hwb] at HM0 HN0 GG ⊢
  have HMB := Lib.hid HM0
  have HNB := Lib.hid HN0
  have G_wb := Lib.hid (G_wa.out.trans GG)
  have RBA_wb := Lib.hid (row_grow RBA.out GG)
  have HKC := Lib.hid (fun (W : World) (hW : Grow wb W) => net_take (n := (l.length : Int) - 1) W (HNB.out.mono hW.sub) (by rw [HLZ.out]; omega) HPZ.out)
  rw [E4.out] at HKC
  have HG_wb := Lib.hid GG
  clear hwb HM0 HN0 GG
  refine (HKC.out _ (Grow.refl _)).mono ?_
  rintro e vc ⟨vC, vmC, rfl, hown, hx, hb⟩
  obtain ⟨aC, kC, rfl⟩ := hown.form
  obtain ⟨pC, qC, rfl⟩ := hx.ms_form
  have hgw : Grow vc (vc.alloc (.cells #[.int .i64 m.kind, .int .i64 m.deed, .int .i64 m.house, .slice pC m.parts.length qC] 39)) := (Grow.refl _).alloc _
  have HM0 := (hx.mono (ov_sub (fun _ _ e9 => by cases e9) hb)).mono hgw.sub
  have HN0 := (hown.sl (by decide) (fr_sub _ _ _)).mono hgw.sub
  have GG := hb.trans hgw
  clear hown hx hb hgw
  go_wp2_with fail
  obtain ⟨wc, hwc⟩ : ∃ y : World, y = vc.alloc (.cells #[.int .i64 m.kind, .int .i64 m.deed, .int .i64 m.house, .slice pC m.parts.length qC] 39) := ⟨_, rfl⟩
  have RBC : Hid (wc.heap[vc.heap.size]? = some (.cells #[.int .i64 m.kind, .int .i64 m.deed, .int .i64 m.house, .slice pC m.parts.length qC] 39 (0, 0))) := Lib.hid (by rw [hwc]; exact row_new _ _)
  rw [← hwc] at HM0 HN0 GG ⊢
  have HMC := Lib.hid HM0
  have HNC := Lib.hid HN0
  have G_wc := Lib.hid (G_wb.out.trans GG)
  have RBA_wc := Lib.hid (row_grow RBA_wb.out GG)
  have RBB_wc := Lib.hid (row_grow RBB.out GG)
  have HG_wc := Lib.hid GG
  clear hwc HM0 HN0 GG
  refine (HT4.out _ G_wc.out).mono ?_
  rintro e vd ⟨vD, vmD, rfl, hown, hx, hb⟩
  obtain ⟨aD, kD, rfl⟩ := hown.form
  obtain ⟨pD, qD, rfl⟩ := hx.ms_form
  have hgw : Grow vd (vd.alloc (.cells #[.int .i64 m.kind, .int .i64 m.deed, .int .i64 m.house, .slice pD m.parts.length qD] 39)) := (Grow.refl _).alloc _
  have HM0 := (hx.mono (ov_sub (fun _ _ e9 => by cases e9) hb)).mono hgw.sub
  have HN0 := (hown.sl (by decide) (fr_sub _ _ _)).mono hgw.sub
  have GG := hb.trans hgw
  clear hown hx hb hgw
  have RA_e := row_grow RBA_wc.out GG
  have RB_e := row_grow RBB_wc.out GG
  have RC_e := row_grow RBC.out GG
  have RD_e := row_new vd (.cells #[.int .i64 m.kind, .int .i64 m.deed, .int .i64 m.house, .slice pD m.parts.length qD] 39)
  obtain ⟨cA0, cA1, cA2, cA3⟩ := cells4 RA_e
  obtain ⟨cB0, cB1, cB2, cB3⟩ := cells4 RB_e
  obtain ⟨cC0, cC1, cC2, cC3⟩ := cells4 RC_e
  obtain ⟨cD0, cD1, cD2, cD3⟩ := cells4 RD_e
  go_wp2_with fail
  clear cA0 cA1 cA2 cA3 cB0 cB1 cB2 cB3 cC0 cC1 cC2 cC3 cD0 cD1 cD2 cD3 RA_e RB_e RC_e RD_e
  obtain ⟨wd, hwd⟩ : ∃ y : World, y = vd.alloc (.cells #[.int .i64 m.kind, .int .i64 m.deed, .int .i64 m.house, .slice pD m.parts.length qD] 39) := ⟨_, rfl⟩
  have RBD : Hid (wd.heap[vd.heap.size]? = some (.cells #[.int .i64 m.kind, .int .i64 m.deed, .int .i64 m.house, .slice pD m.parts.length qD] 39 (0, 0))) := Lib.hid (by rw [hwd]; exact row_new _ _)
  rw [← hwd] at HM0 HN0 GG ⊢
  have HMD := Lib.hid HM0
  have HND := Lib.hid HN0
  have G_wd := Lib.hid (G_wc.out.trans GG)
  have RBA_wd := Lib.hid (row_grow RBA_wc.out GG)
  have RBB_wd := Lib.hid (row_grow RBB_wc.out GG)
  have RBC_wd := Lib.hid (row_grow RBC.out GG)
  have HG_wd := Lib.hid GG
  clear hwd HM0 HN0 GG
  have MA := Lib.hid (HMA.out.mono (HG_wb.out.trans (HG_wc.out.trans HG_wd.out)).sub)
  have MB := Lib.hid (HMB.out.mono (HG_wc.out.trans HG_wd.out).sub)
  have MC := Lib.hid (HMC.out.mono HG_wd.out.sub)
  have NA := Lib.hid (HNA.out.mono (HG_wb.out.trans (HG_wc.out.trans HG_wd.out)).sub)
  have NC := Lib.hid (HNC.out.mono HG_wd.out.sub)
  clear HMA HMB HMC HNA HNB HNC

  have RA_wd := RBA_wd
  have RB_wd := RBB_wd
  have RC_wd := RBC_wd
  have RD_wd := RBD
  refine (ref_sameMsg _ (MA.out) (MB.out)).mono ?_
  rintro e u0 ⟨rfl, hb⟩
  rw [decide_eq_true rfl]
  have RA_u0 := Lib.hid (row_grow RA_wd.out hb)
  have RB_u0 := Lib.hid (row_grow RB_wd.out hb)
  have RC_u0 := Lib.hid (row_grow RC_wd.out hb)
  have RD_u0 := Lib.hid (row_grow RD_wd.out hb)
  have HU0 := Lib.hid (hb)
  clear hb
  obtain ⟨cA0, cA1, cA2, cA3⟩ := cells4 RA_u0.out
  obtain ⟨cB0, cB1, cB2, cB3⟩ := cells4 RB_u0.out
  obtain ⟨cC0, cC1, cC2, cC3⟩ := cells4 RC_u0.out
  obtain ⟨cD0, cD1, cD2, cD3⟩ := cells4 RD_u0.out
  go_wp2_with fail
  refine (ref_sameMsg _ (MB.out.mono HU0.out.sub) (MC.out.mono HU0.out.sub)).mono ?_
  rintro e u1 ⟨rfl, hb⟩
  rw [decide_eq_true rfl]
  have RA_u1 := Lib.hid (row_grow RA_u0.out hb)
  have RB_u1 := Lib.hid (row_grow RB_u0.out hb)
  have RC_u1 := Lib.hid (row_grow RC_u0.out hb)
  have RD_u1 := Lib.hid (row_grow RD_u0.out hb)
  have HU1 := Lib.hid (HU0.out.trans hb)
  clear hb cA0 cA1 cA2 cA3 cB0 cB1 cB2 cB3 cC0 cC1 cC2 cC3 cD0 cD1 cD2 cD3
  obtain ⟨cA0, cA1, cA2, cA3⟩ := cells4 RA_u1.out
  obtain ⟨cB0, cB1, cB2, cB3⟩ := cells4 RB_u1.out
  obtain ⟨cC0, cC1, cC2, cC3⟩ := cells4 RC_u1.out
  obtain ⟨cD0, cD1, cD2, cD3⟩ := cells4 RD_u1.out
  go_wp2_with fail
  refine (ref_sameMsg _ (MC.out.mono HU1.out.sub) (HMD.out.mono HU1.out.sub)).mono ?_
  rintro e u2 ⟨rfl, hb⟩
  rw [decide_eq_true rfl]
  have RA_u2 := Lib.hid (row_grow RA_u1.out hb)
  have RB_u2 := Lib.hid (row_grow RB_u1.out hb)
  have RC_u2 := Lib.hid (row_grow RC_u1.out hb)
  have RD_u2 := Lib.hid (row_grow RD_u1.out hb)
  have HU2 := Lib.hid (HU1.out.trans hb)
  clear hb cA0 cA1 cA2 cA3 cB0 cB1 cB2 cB3 cC0 cC1 cC2 cC3 cD0 cD1 cD2 cD3
  obtain ⟨cA0, cA1, cA2, cA3⟩ := cells4 RA_u2.out
  obtain ⟨cB0, cB1, cB2, cB3⟩ := cells4 RB_u2.out
  obtain ⟨cC0, cC1, cC2, cC3⟩ := cells4 RC_u2.out
  obtain ⟨cD0, cD1, cD2, cD3⟩ := cells4 RD_u2.out
  go_wp2_with fail
  refine (ref_sameNet _ (NA.out.mono HU2.out.sub) (HV.out.mono (G_wd.out.trans HU2.out).sub)).mono ?_
  rintro e u3 ⟨rfl, hb⟩
  rw [decide_eq_true rfl]
  have HU3 := Lib.hid (HU2.out.trans hb)
  clear hb
  go_wp2_with fail
  refine (ref_sameNet _ (NC.out.mono HU3.out.sub) (HND.out.mono HU3.out.sub)).mono ?_
  rintro e u4 ⟨rfl, hb⟩
  rw [decide_eq_true rfl]
  have HU4 := Lib.hid (HU3.out.trans hb)
  clear hb
  go_wp2
  go_ret
  exact ⟨rfl, G_wd.out.trans HU4.out⟩
end Go.Proofs.Ytgbhpghgohggcaa

/- Plain: numbers read one by one, as the document's Read reads them. -/
namespace Go.Proofs.Ytgbhpghgohggcaa
theorem getN_len : ∀ {n : Nat} {l : List UInt8} {xs : List Int} {r : List UInt8}, getN n l = .inl (xs, r) → xs.length = n
  | 0, l, xs, r, h => by
    simp only [getN, Sum.inl.injEq, Prod.mk.injEq] at h
    rw [← h.1]; rfl
  | n + 1, l, xs, r, h => by
    rw [getN] at h
    split at h
    · cases hn : getN n (l.drop (getB l).2.1.toNat) with
      | inl p =>
        obtain ⟨ys, r'⟩ := p
        rw [hn] at h
        simp only [Sum.inl.injEq, Prod.mk.injEq] at h
        rw [← h.1, List.length_cons, getN_len hn]
      | inr e => rw [hn] at h; cases h
    · cases h
def thenN (j : Nat) : Sum (List Int × List UInt8) Int → Sum (List Int × List UInt8) Int
  | .inl (xs, r) => match getN j r with
    | .inl (ys, r') => .inl (xs ++ ys, r')
    | .inr e => .inr e
  | .inr e => .inr e
theorem getN_add (j : Nat) : ∀ (k : Nat) (l : List UInt8), getN (k + j) l = thenN j (getN k l)
  | 0, l => by
    rw [Nat.zero_add]
    show getN j l = thenN j (.inl ([], l))
    unfold thenN
    cases h : getN j l with
    | inl p => obtain ⟨ys, r'⟩ := p; simp [h]
    | inr e => simp [h]
  | k + 1, l => by
    rw [show k + 1 + j = (k + j) + 1 by omega, getN, getN]
    by_cases h : (getB l).2.2 = 0
    · rw [if_pos h, if_pos h, getN_add j k]
      cases hk : getN k (l.drop (getB l).2.1.toNat) with
      | inl p =>
        obtain ⟨xs, r⟩ := p
        simp only [thenN]
        cases hj : getN j r with
        | inl q => obtain ⟨ys, r'⟩ := q; simp
        | inr e => simp
      | inr e => simp [thenN]
    · rw [if_neg h, if_neg h]; simp [thenN]
/-- where the reading stands: so many numbers are read, and r is left; want: how many are asked for -/
structure RdSt (l : List UInt8) (xs : List Int) (r : List UInt8) (want : Int) : Prop where
  got : getN xs.length l = .inl (xs, r)
  few : xs.length < 3 → want = 3
  more : 3 ≤ xs.length → 0 ≤ xs.getD 2 0 ∧ xs.getD 2 0 ≤ 4 ∧ want = 3 + 2 * xs.getD 2 0
  le : (xs.length : Int) ≤ want
theorem RdSt.start (l : List UInt8) : RdSt l [] l 3 := ⟨rfl, fun _ => rfl, fun h => by simp at h, by simp⟩
theorem getN_one {l r : List UInt8} {xs : List Int} (h : getN xs.length l = .inl (xs, r)) : getN (xs.length + 1) l = if (getB r).2.2 = 0 then .inl (xs ++ [(getB r).1], r.drop (getB r).2.1.toNat) else .inr (getB r).2.2 := by
  rw [getN_add, h]
  by_cases hc : (getB r).2.2 = 0 <;> simp [thenN, getN, hc]
/-- the body's first three, and the rest -/
theorem getN_three {l r : List UInt8} {xs : List Int} {j : Nat} (h : getN xs.length l = .inl (xs, r)) (hj : xs.length = 3 + j) : ∃ r3, getN 3 l = .inl (xs.take 3, r3) ∧ getN j r3 = .inl (xs.drop 3, r) := by
  rw [hj, getN_add] at h
  cases h3 : getN 3 l with
  | inr e => rw [h3] at h; simp [thenN] at h
  | inl p =>
    obtain ⟨ys, r3⟩ := p
    have hl := getN_len h3
    rw [h3] at h
    simp only [thenN] at h
    cases h4 : getN j r3 with
    | inr e => rw [h4] at h; simp at h
    | inl q =>
      obtain ⟨zs, r4⟩ := q
      rw [h4] at h
      simp only [Sum.inl.injEq, Prod.mk.injEq] at h
      obtain ⟨rfl, rfl⟩ := h
      refine ⟨r3, ?_, ?_⟩
      · rw [List.take_append_of_le_length (by omega), List.take_of_length_le (by omega)]
      · rw [List.drop_append_of_le_length (by omega), List.drop_of_length_le (by omega)]; simpa using h4
theorem getD_take {xs : List Int} {i n : Nat} (h : i < n) : (xs.take n).getD i 0 = xs.getD i 0 := by
  rw [List.getD_eq_getElem?_getD, List.getD_eq_getElem?_getD, List.getElem?_take_of_lt h]
/-- a number fails -/
theorem RdSt.fails {l r : List UInt8} {xs : List Int} {want : Int} (h : RdSt l xs r want) (hlt : (xs.length : Int) < want) (he : (getB r).2.2 ≠ 0) (kind : Int) : readBody kind l = (ms0, (getB r).2.2) := by
  have h1 := getN_one h.got
  rw [if_neg he] at h1
  by_cases h3 : xs.length < 3
  · have h2 : getN 3 l = .inr (getB r).2.2 := by
      rw [show 3 = (xs.length + 1) + (2 - xs.length) by omega, getN_add, h1]; rfl
    unfold readBody
    rw [h2]
  · obtain ⟨m0, m4, hw⟩ := h.more (by omega)
    obtain ⟨r3, e3, ej⟩ := getN_three h.got (j := xs.length - 3) (by omega)
    unfold readBody
    rw [e3]
    simp only [getD_take (xs := xs) (i := 2) (n := 3) (by omega), getD_take (xs := xs) (i := 1) (n := 3) (by omega), getD_take (xs := xs) (i := 0) (n := 3) (by omega)]
    rw [if_neg (by omega)]
    have h5 : getN (2 * (xs.getD 2 0).toNat) r3 = .inr (getB r).2.2 := by
      have h6 : getN (xs.drop 3).length r3 = .inl (xs.drop 3, r) := by rw [List.length_drop]; exact ej
      have h7 := getN_one h6
      rw [if_neg he] at h7
      rw [show 2 * (xs.getD 2 0).toNat = ((xs.drop 3).length + 1) + (2 * (xs.getD 2 0).toNat - ((xs.drop 3).length + 1)) by rw [List.length_drop]; omega, getN_add, h7]; rfl
    rw [h5]
/-- the third number is out of range -/
theorem RdSt.five {l r : List UInt8} {xs : List Int} {want : Int} (h : RdSt l xs r want) (h2 : xs.length = 2) (he : (getB r).2.2 = 0) (hr : (getB r).1 < 0 ∨ 4 < (getB r).1) (kind : Int) : readBody kind l = (ms0, 5) := by
  have h1 := getN_one h.got
  rw [if_pos he, h2] at h1
  unfold readBody
  rw [h1]
  have : (xs ++ [(getB r).1]).getD 2 0 = (getB r).1 := by
    rw [List.getD_eq_getElem?_getD, List.getElem?_append_right (by omega), h2]; rfl
  simp only [this]
  rw [if_pos hr]
/-- one number more -/
theorem RdSt.next {l r : List UInt8} {xs : List Int} {want : Int} (h : RdSt l xs r want) (hlt : (xs.length : Int) < want) (he : (getB r).2.2 = 0) (hr : xs.length = 2 → 0 ≤ (getB r).1 ∧ (getB r).1 ≤ 4) :
    RdSt l (xs ++ [(getB r).1]) (r.drop (getB r).2.1.toNat) (if xs.length = 2 then 3 + 2 * (getB r).1 else want) := by
  have h1 := getN_one h.got
  rw [if_pos he] at h1
  have hl : (xs ++ [(getB r).1]).length = xs.length + 1 := by simp
  have hg : ∀ h3 : 3 ≤ xs.length, (xs ++ [(getB r).1]).getD 2 0 = xs.getD 2 0 := fun h3 => by
    rw [List.getD_eq_getElem?_getD, List.getElem?_append_left (by omega), List.getD_eq_getElem?_getD]
  refine ⟨by rw [hl]; exact h1, fun h3 => ?_, fun h3 => ?_, ?_⟩
  · rw [hl] at h3
    rw [if_neg (by omega)]
    exact h.few (by omega)
  · rw [hl] at h3
    by_cases h2 : xs.length = 2
    · have : (xs ++ [(getB r).1]).getD 2 0 = (getB r).1 := by
        rw [List.getD_eq_getElem?_getD, List.getElem?_append_right (by omega), h2]; rfl
      rw [this, if_pos h2]
      exact ⟨(hr h2).1, (hr h2).2, rfl⟩
    · rw [hg (by omega), if_neg h2]
      exact h.more (by omega)
  · rw [hl]
    split
    · have := hr (by assumption); omega
    · omega
/-- all are read -/
theorem RdSt.all {l r : List UInt8} {xs : List Int} {want : Int} (h : RdSt l xs r want) (hle : want ≤ (xs.length : Int)) (kind : Int) :
    readBody kind l = if r ≠ [] then (ms0, 2) else
      if wrongM ⟨kind, xs.getD 0 0, xs.getD 1 0, pairs (xs.getD 1 0) (xs.drop 3)⟩ = 0 then (⟨kind, xs.getD 0 0, xs.getD 1 0, pairs (xs.getD 1 0) (xs.drop 3)⟩, 0)
      else (ms0, wrongM ⟨kind, xs.getD 0 0, xs.getD 1 0, pairs (xs.getD 1 0) (xs.drop 3)⟩) := by
  have h3 : 3 ≤ xs.length := by
    by_cases h3 : xs.length < 3
    · have := h.few h3; omega
    · omega
  obtain ⟨m0, m4, hw⟩ := h.more h3
  have hl := h.le
  obtain ⟨r3, e3, ej⟩ := getN_three h.got (j := xs.length - 3) (by omega)
  unfold readBody
  rw [e3]
  simp only [getD_take (xs := xs) (i := 2) (n := 3) (by omega), getD_take (xs := xs) (i := 1) (n := 3) (by omega), getD_take (xs := xs) (i := 0) (n := 3) (by omega)]
  rw [if_neg (by omega), show 2 * (xs.getD 2 0).toNat = xs.length - 3 by omega, ej]
end Go.Proofs.Ytgbhpghgohggcaa

/- Walks: a message as bytes, by the document. -/
namespace Go.Proofs.Ytgbhpghgohggcaa
open Go.RowKit
theorem appR {w : World} {o : Oper} {a : Act} {K : Act → World → Prop} {Q : Exit → Act → World → Prop} (s x : Operand)
    (ho : o.op = .call { callee := .builtin .append, args := #[s, x], argTypes := #[69, 69] })
    {base base' : Nat} {v v2 : Value} {b b2 : List UInt8} (hs : a.eval s = v) (hown : OwnB w base v b) (hbase : base ≤ w.heap.size) (hx : a.eval x = v2) (h2 : OwnB w base' v2 b2)
    (hlen : b.length + b2.length ≤ 140737488355328)
    (h : ∀ v' w', OwnB w' base v' (b ++ b2) → MoreB w w' v v' → K (a.put o.dst v') w') : o.wp Try.prog a w K Q := by
  obtain ⟨a2, c2, rfl⟩ := owns_form h2
  obtain ⟨e1, e2⟩ := own_src h2
  refine wp_app_any ei_byte s x ho hs hown a2 b2.length c2 (b2.flatMap byteCell) hx e1 (flat_len (size := 1) (f := byteCell) (fun _ => rfl) b2) e2 (flat_one one_byte b2) (by unfold maxLen; omega) (by omega) hbase fun a' c' w' hA => ?_
  have h1 := hA.own
  rw [flat_bytes] at h1
  refine h _ w' ?_ ⟨hA.grown, hA.blk⟩
  have e : b.length + b2.length = (b ++ b2).length := by simp
  rw [e] at h1 ⊢
  exact h1
theorem litB {w W : World} {base : Nat} {k : Int} {x : UInt8} (hk : k = (x.toNat : Int)) (hb : base ≤ w.heap.size) (hW : W = w.alloc (.cells #[.int .u8 k] 5)) : OwnB W base (.slice (some ⟨w.heap.size, 0, none⟩) 1 1) [x] := by
  subst hW hk
  exact World.ownsRow_lit (base := base) (e := 5) (size := 1) w #[.int .u8 x.toNat] 1 hb (by decide) rfl
theorem OwnB.low {w : World} {base base' : Nat} {v : Value} {b : List UInt8} (h : OwnB w base v b) (hb : base' ≤ base) : OwnB w base' v b := by
  obtain ⟨hl, ⟨he, hn⟩ | ⟨g, cap, cur, he, hg, hr⟩⟩ := h
  · exact ⟨hl, .inl ⟨he, hn⟩⟩
  · exact ⟨hl, .inr ⟨g, cap, cur, he, Nat.le_trans hb hg, hr⟩⟩
set_option maxRecDepth 100000 in
set_option maxHeartbeats 2000000 in
theorem ref_bytes {v : Value} {m : Ms} (w : World) (hv : Of Ty.ms w.cell? v m) (hk : 0 ≤ m.kind ∧ m.kind < 256) (hl : m.parts.length ≤ 4) :
    Calls Try.prog 136 #[v] w fun e w' => ∃ v', e = .returned v' ∧ OwnB w' w.heap.size v' (bytesM m) ∧ Grow w w' := by
  obtain ⟨ap, cp, rfl⟩ := hv.ms_form
  obtain ⟨hp, ik, id', ih⟩ := hv.ms_parts
  have hok := Pts.ok hp
  have HKB : Hid (IntKind.u8.wrap m.kind = ((UInt8.ofNat m.kind.toNat).toNat : Int)) := Lib.hid (by rw [IntWalk.u8_in _ (by omega)]; exact kind_byte hk)
  have HI1 := Lib.hid id'
  have HI2 := Lib.hid ih
  have HI3 : Hid (I64 (m.parts.length : Int)) := Lib.hid (i64_of (by omega) (by omega))
  have HN1 := Lib.hid (numB_len (i64_bounds id').1 (i64_bounds id').2)
  have HN2 := Lib.hid (numB_len (i64_bounds ih).1 (i64_bounds ih).2)
  have HN3 := Lib.hid (numB_len (i64_bounds HI3.out).1 (i64_bounds HI3.out).2)
  have HPL := Lib.hid (fun k => partsBytes_len (l := m.parts.take k) fun p hp => hok p (List.mem_of_mem_take hp))
  have HM : Hid ((([UInt8.ofNat m.kind.toNat] ++ numB m.deed) ++ numB m.house) ++ numB (m.parts.length : Int) ++ m.parts.flatMap partBytes = msgHead m) := Lib.hid (by unfold msgHead; simp)
  have HEL := Lib.hid hp
  obtain ⟨hk0, hk1⟩ := hk
  clear hv ik id' ih hok hp
  go_enter Try.func136, Try.ntmps136
  go_upto_region 1 with fail
  obtain ⟨wa, hwa⟩ : ∃ x : World, x = w.alloc (.cells #[.int .i64 m.kind, .int .i64 m.deed, .int .i64 m.house, .slice ap m.parts.length cp] 39) := ⟨_, rfl⟩
  have RA : Hid (wa.heap[w.heap.size]? = some (.cells #[.int .i64 m.kind, .int .i64 m.deed, .int .i64 m.house, .slice ap m.parts.length cp] 39 (0, 0))) := Lib.hid (by rw [hwa]; exact row_new _ _)
  have GA : Hid (Grow w wa) := Lib.hid (by rw [hwa]; exact (Grow.refl w).alloc _)
  have ZA : Hid (wa.heap.size = w.heap.size + 1) := Lib.hid (by rw [hwa]; simp)
  rw [← hwa]
  clear hwa
  go_cut [3] from 15 (fun bv wc => OwnB wc (w.heap.size + 1) bv ([UInt8.ofNat m.kind.toNat] ++ numB m.deed) ∧ Grow w wc ∧ wc.heap[w.heap.size]? = some (.cells #[.int .i64 m.kind, .int .i64 m.deed, .int .i64 m.house, .slice ap m.parts.length cp] 39 (0, 0)))
  case first =>

    refine but_start (fun w' => w'.cell? ⟨w.heap.size, 0, none⟩ = some (.int .i64 m.kind) ∧ w'.cell? ⟨w.heap.size, 1, none⟩ = some (.int .i64 m.deed)) 8 (by kernel_rfl) ?_
    obtain ⟨wd, hWd⟩ : ∃ x : World, x = wa.drew := ⟨_, rfl⟩
    rw [← hWd]
    have GD : Grow wa wd := by rw [hWd]; exact (Grow.refl _).drew
    have zD : wa.heap.size = wd.heap.size := by rw [hWd]; rfl
    have ZD := Lib.hid zD
    clear hWd zD
    refine but_take (i := 0) (v := ?_) 12 rfl (by kernel_rfl) (by kernel_rfl) (by kernel_rfl) (by kernel_rfl) (by kernel_rfl) (fun _ _ _ h => h) (⟨(cells4 (row_grow RA.out GD)).1, (cells4 (row_grow RA.out GD)).2.1⟩) (Or.inl ⟨by rfl, ?_⟩) ?_
    rotate_left
    · (intro w' hSw; (try dsimp only at hSw); obtain ⟨hs0, hs1⟩ := hSw; go_simp <;> with_reducible rfl)
    try simp only [Act.put, List.getElem_toArray, List.getElem_cons_zero, List.setIfInBounds_toArray, List.set_cons_zero, List.set_cons_succ]
    refine but_take (i := 1) (v := ?_) 12 rfl (by kernel_rfl) (by kernel_rfl) (by kernel_rfl) (by kernel_rfl) (by kernel_rfl) (fun _ _ _ h => h) (⟨(cells4 (row_grow RA.out GD)).1, (cells4 (row_grow RA.out GD)).2.1⟩) (Or.inl ⟨by rfl, ?_⟩) ?_
    rotate_left
    · (intro w' hSw; (try dsimp only at hSw); obtain ⟨hs0, hs1⟩ := hSw; go_simp <;> with_reducible rfl)
    try simp only [Act.put, List.getElem_toArray, List.getElem_cons_succ, List.getElem_cons_zero, List.setIfInBounds_toArray, List.set_cons_zero, List.set_cons_succ]
    refine but_take (i := 2) (v := ?_) 12 rfl (by kernel_rfl) (by kernel_rfl) (by kernel_rfl) (by kernel_rfl) (by kernel_rfl) (fun _ _ _ h => h) (⟨(cells4 (row_grow RA.out GD)).1, (cells4 (row_grow RA.out GD)).2.1⟩) (Or.inl ⟨by rfl, ?_⟩) ?_
    rotate_left
    · (intro w' hSw; (try dsimp only at hSw); obtain ⟨hs0, hs1⟩ := hSw; go_simp <;> with_reducible rfl)
    try simp only [Act.put, List.getElem_toArray, List.getElem_cons_succ, List.getElem_cons_zero, List.setIfInBounds_toArray, List.set_cons_zero, List.set_cons_succ]
    refine but_take (i := 4) (v := ?_) 12 rfl (by kernel_rfl) (by kernel_rfl) (by kernel_rfl) (by kernel_rfl) (by kernel_rfl) (fun _ _ _ h => h) (⟨(cells4 (row_grow RA.out GD)).1, (cells4 (row_grow RA.out GD)).2.1⟩) (Or.inl ⟨by rfl, ?_⟩) ?_
    rotate_left
    · (intro w' hSw; (try dsimp only at hSw); obtain ⟨hs0, hs1⟩ := hSw; go_simp <;> with_reducible rfl)
    try simp only [Act.put, List.getElem_toArray, List.getElem_cons_succ, List.getElem_cons_zero, List.setIfInBounds_toArray, List.set_cons_zero, List.set_cons_succ]
    refine but_take (i := 5) (v := ?_) 12 rfl (by kernel_rfl) (by kernel_rfl) (by kernel_rfl) (by kernel_rfl) (by kernel_rfl) (fun _ _ _ h => h) (⟨(cells4 (row_grow RA.out GD)).1, (cells4 (row_grow RA.out GD)).2.1⟩) (Or.inl ⟨by rfl, ?_⟩) ?_
    rotate_left
    · (intro w' hSw; (try dsimp only at hSw); obtain ⟨hs0, hs1⟩ := hSw; go_simp <;> with_reducible rfl)
    try simp only [Act.put, List.getElem_toArray, List.getElem_cons_succ, List.getElem_cons_zero, List.setIfInBounds_toArray, List.set_cons_zero, List.set_cons_succ]
    refine but_two (i := 3) (j := 6) (by kernel_rfl) rfl rfl ?_ ?_
    · skip
      intro K HK'
      have HK := Lib.hid HK'
      clear HK'
      skip
      try simp only [List.getElem_toArray, List.getElem_cons_succ, List.getElem_cons_zero]
      go_simp
      obtain ⟨wl, hwl⟩ : ∃ x : World, x = wd.alloc (.cells #[.int .u8 (IntKind.u8.wrap m.kind)] 5) := ⟨_, rfl⟩
      have HL3 := Lib.hid (litB (base := w.heap.size + 1) (k := IntKind.u8.wrap m.kind) HKB.out (by have := ZA.out; have := GD.size; omega) hwl)
      have GL : Grow wd wl := by rw [hwl]; exact (Grow.refl _).alloc _
      have RL := Lib.hid (row_grow (row_grow RA.out GD) GL)
      have GWL : Grow wa wl := Grow.trans GD GL
      rw [← hwl]
      clear hwl
      refine HK.out _ _ ⟨fun _ => ⟨(cells4 RL.out).1, (cells4 RL.out).2.1⟩, ?_⟩
      clear HK K
      try simp only [Act.put, List.getElem_toArray, List.getElem_cons_succ, List.getElem_cons_zero, List.setIfInBounds_toArray, List.set_cons_zero, List.set_cons_succ]
      refine but_one (i := 6) (by kernel_rfl) rfl ?_
      intro K HK'
      have HK := Lib.hid HK'
      clear HK'
      skip
      try simp only [List.getElem_toArray, List.getElem_cons_succ, List.getElem_cons_zero]
      go_simp
      go_at_call 166
      refine (ref_number _ HI1.out).mono ?_
      rintro e wn ⟨vn, rfl, hon, hbn⟩
      have HON := Lib.hid hon
      have RN := Lib.hid (row_grow RL.out hbn)
      have GN := Lib.hid hbn
      have GWN : Grow wa wn := Grow.trans GWL hbn
      clear hon hbn
      refine HK.out _ _ ⟨fun _ => ⟨(cells4 RN.out).1, (cells4 RN.out).2.1⟩, ?_⟩
      clear HK K
      try simp only [Act.put, List.getElem_toArray, List.getElem_cons_succ, List.getElem_cons_zero, List.setIfInBounds_toArray, List.set_cons_zero, List.set_cons_succ]
      refine but_one (i := 7) (by kernel_rfl) rfl ?_
      intro K HK'
      have HK := Lib.hid HK'
      clear HK'
      refine wanted_go rfl ?_
      try simp only [List.getElem_toArray, List.getElem_cons_succ, List.getElem_cons_zero]
      refine appR (.tmp 10) (.tmp 13) rfl rfl (OwnB.grow HL3.out GN.out) (by have := ZA.out; have := GWN.size; omega) rfl HON.out (by have := HN1.out; simp; omega) ?_
      intro v7 w7 ho7 hm7
      have HO7 := Lib.hid ho7
      have R7 := Lib.hid (hm7.row RN.out (fun q hq => by have := (OwnB.low (OwnB.grow HL3.out GN.out) (Nat.le_refl _)).lt q hq; omega))
      have G7 := Lib.hid (hm7.all (GA.out.trans GWN) (fun q hq => by have := World.ownsRow.lt (OwnB.grow HL3.out GN.out) q hq; omega))
      clear ho7 hm7
      refine HK.out _ _ ⟨fun _ => ⟨(cells4 R7.out).1, (cells4 R7.out).2.1⟩, ?_⟩
      clear HK K
      try simp only [Act.put, List.setIfInBounds_toArray, List.set_cons_zero, List.set_cons_succ]
      refine but_one (i := 8) (by kernel_rfl) rfl ?_
      intro K HK'
      have HK := Lib.hid HK'
      clear HK'
      skip
      try simp only [List.getElem_toArray, List.getElem_cons_succ, List.getElem_cons_zero]
      go_simp
      refine HK.out _ _ ⟨fun h => absurd rfl h, ?_⟩
      clear HK K
      try simp only [Act.put, List.getElem_toArray, List.getElem_cons_succ, List.getElem_cons_zero, List.setIfInBounds_toArray, List.set_cons_zero, List.set_cons_succ]
      refine but_done (by kernel_rfl) ?_
      go_wp2
      go_meet
      case rel => exact ⟨HO7.out, G7.out, R7.out⟩
    · skip
      intro K HK'
      have HK := Lib.hid HK'
      clear HK'
      skip
      try simp only [List.getElem_toArray, List.getElem_cons_succ, List.getElem_cons_zero]
      go_simp
      go_at_call 166
      refine (ref_number _ HI1.out).mono ?_
      rintro e wn ⟨vn, rfl, hon, hbn⟩
      have HON := Lib.hid hon
      have RN := Lib.hid (row_grow (row_grow RA.out GD) hbn)
      have GN := Lib.hid hbn
      have GWN : Grow wa wn := Grow.trans GD hbn
      clear hon hbn
      refine HK.out _ _ ⟨fun _ => ⟨(cells4 RN.out).1, (cells4 RN.out).2.1⟩, ?_⟩
      clear HK K
      try simp only [Act.put, List.getElem_toArray, List.getElem_cons_succ, List.getElem_cons_zero, List.setIfInBounds_toArray, List.set_cons_zero, List.set_cons_succ]
      refine but_one (i := 3) (by kernel_rfl) rfl ?_
      intro K HK'
      have HK := Lib.hid HK'
      clear HK'
      skip
      try simp only [List.getElem_toArray, List.getElem_cons_succ, List.getElem_cons_zero]
      go_simp
      obtain ⟨wl, hwl⟩ : ∃ x : World, x = wn.alloc (.cells #[.int .u8 (IntKind.u8.wrap m.kind)] 5) := ⟨_, rfl⟩
      have HL3 := Lib.hid (litB (base := w.heap.size + 1) (k := IntKind.u8.wrap m.kind) HKB.out (by have := ZA.out; have := GWN.size; omega) hwl)
      have GL : Grow wn wl := by rw [hwl]; exact (Grow.refl _).alloc _
      have RL := Lib.hid (row_grow RN.out GL)
      have GWL : Grow wa wl := Grow.trans GWN GL
      rw [← hwl]
      clear hwl
      refine HK.out _ _ ⟨fun _ => ⟨(cells4 RL.out).1, (cells4 RL.out).2.1⟩, ?_⟩
      clear HK K
      try simp only [Act.put, List.getElem_toArray, List.getElem_cons_succ, List.getElem_cons_zero, List.setIfInBounds_toArray, List.set_cons_zero, List.set_cons_succ]
      refine but_one (i := 7) (by kernel_rfl) rfl ?_
      intro K HK'
      have HK := Lib.hid HK'
      clear HK'
      refine wanted_go rfl ?_
      try simp only [List.getElem_toArray, List.getElem_cons_succ, List.getElem_cons_zero]
      refine appR (.tmp 10) (.tmp 13) rfl rfl HL3.out (by have := ZA.out; have := GWL.size; omega) rfl (OwnB.grow HON.out GL) (by have := HN1.out; simp; omega) ?_
      intro v7 w7 ho7 hm7
      have HO7 := Lib.hid ho7
      have R7 := Lib.hid (hm7.row RL.out (fun q hq => by have := (OwnB.low HL3.out (Nat.le_refl _)).lt q hq; omega))
      have G7 := Lib.hid (hm7.all (GA.out.trans GWL) (fun q hq => by have := World.ownsRow.lt HL3.out q hq; omega))
      clear ho7 hm7
      refine HK.out _ _ ⟨fun _ => ⟨(cells4 R7.out).1, (cells4 R7.out).2.1⟩, ?_⟩
      clear HK K
      try simp only [Act.put, List.setIfInBounds_toArray, List.set_cons_zero, List.set_cons_succ]
      refine but_one (i := 8) (by kernel_rfl) rfl ?_
      intro K HK'
      have HK := Lib.hid HK'
      clear HK'
      skip
      try simp only [List.getElem_toArray, List.getElem_cons_succ, List.getElem_cons_zero]
      go_simp
      refine HK.out _ _ ⟨fun h => absurd rfl h, ?_⟩
      clear HK K
      try simp only [Act.put, List.getElem_toArray, List.getElem_cons_succ, List.getElem_cons_zero, List.setIfInBounds_toArray, List.set_cons_zero, List.set_cons_succ]
      refine but_done (by kernel_rfl) ?_
      go_wp2
      go_meet
      case rel => exact ⟨HO7.out, G7.out, R7.out⟩
  case rest =>
    obtain ⟨ho, hg, hr⟩ := hcut
    obtain ⟨a1, k1, rfl⟩ := owns_form ho
    have HO := Lib.hid ho
    have HG := Lib.hid hg
    have HR := Lib.hid hr
    have HLP : Hid (([UInt8.ofNat m.kind.toNat] ++ numB m.deed).length ≤ 11) := Lib.hid (by have := HN1.out; simp; omega)
    clear ho hg hr RA GA ZA HKB HN1 HI1
    generalize [UInt8.ofNat m.kind.toNat] ++ numB m.deed = pre at *
    have HZC : Hid (w.heap.size < wc.heap.size) := Lib.hid (Array.getElem?_eq_some_iff.1 HR.out).1
    go_upto_region 2 with fail

    have HNE : Hid (∀ q : Nat, True) := Lib.hid (fun _ => trivial)
    refine but_start (fun w' => w'.cell? ⟨w.heap.size, 2, none⟩ = some (.int .i64 m.house) ∧ w'.cell? ⟨w.heap.size, 3, none⟩ = some (.slice ap m.parts.length cp)) 10 (by kernel_rfl) ?_
    obtain ⟨wd, hWd⟩ : ∃ x : World, x = wc.drew := ⟨_, rfl⟩
    rw [← hWd]
    have GD : Grow wc wd := by rw [hWd]; exact (Grow.refl _).drew
    have zD : wc.heap.size = wd.heap.size := by rw [hWd]; rfl
    have ZD := Lib.hid zD
    clear hWd zD
    refine but_take (i := 0) (v := ?_) 14 rfl (by kernel_rfl) (by kernel_rfl) (by kernel_rfl) (by kernel_rfl) (by kernel_rfl) (fun _ _ _ h => h) (⟨(cells4 (row_grow HR.out GD)).2.2.1, (cells4 (row_grow HR.out GD)).2.2.2⟩) (Or.inl ⟨by rfl, ?_⟩) ?_
    rotate_left
    · (intro w' hSw; (try dsimp only at hSw); obtain ⟨hs0, hs1⟩ := hSw; go_simp <;> with_reducible rfl)
    try simp only [Act.put, List.getElem_toArray, List.getElem_cons_zero, List.setIfInBounds_toArray, List.set_cons_zero, List.set_cons_succ]
    refine but_take (i := 1) (v := ?_) 14 rfl (by kernel_rfl) (by kernel_rfl) (by kernel_rfl) (by kernel_rfl) (by kernel_rfl) (fun _ _ _ h => h) (⟨(cells4 (row_grow HR.out GD)).2.2.1, (cells4 (row_grow HR.out GD)).2.2.2⟩) (Or.inl ⟨by rfl, ?_⟩) ?_
    rotate_left
    · (intro w' hSw; (try dsimp only at hSw); obtain ⟨hs0, hs1⟩ := hSw; go_simp <;> with_reducible rfl)
    try simp only [Act.put, List.getElem_toArray, List.getElem_cons_succ, List.getElem_cons_zero, List.setIfInBounds_toArray, List.set_cons_zero, List.set_cons_succ]
    refine but_take (i := 2) (v := ?_) 14 rfl (by kernel_rfl) (by kernel_rfl) (by kernel_rfl) (by kernel_rfl) (by kernel_rfl) (fun _ _ _ h => h) (⟨(cells4 (row_grow HR.out GD)).2.2.1, (cells4 (row_grow HR.out GD)).2.2.2⟩) (Or.inl ⟨by rfl, ?_⟩) ?_
    rotate_left
    · (intro w' hSw; (try dsimp only at hSw); obtain ⟨hs0, hs1⟩ := hSw; go_simp <;> with_reducible rfl)
    try simp only [Act.put, List.getElem_toArray, List.getElem_cons_succ, List.getElem_cons_zero, List.setIfInBounds_toArray, List.set_cons_zero, List.set_cons_succ]
    refine but_take (i := 5) (v := ?_) 14 rfl (by kernel_rfl) (by kernel_rfl) (by kernel_rfl) (by kernel_rfl) (by kernel_rfl) (fun _ _ _ h => h) (⟨(cells4 (row_grow HR.out GD)).2.2.1, (cells4 (row_grow HR.out GD)).2.2.2⟩) (Or.inl ⟨by rfl, ?_⟩) ?_
    rotate_left
    · (intro w' hSw; (try dsimp only at hSw); obtain ⟨hs0, hs1⟩ := hSw; go_simp <;> with_reducible rfl)
    try simp only [Act.put, List.getElem_toArray, List.getElem_cons_succ, List.getElem_cons_zero, List.setIfInBounds_toArray, List.set_cons_zero, List.set_cons_succ]
    refine but_take (i := 6) (v := ?_) 14 rfl (by kernel_rfl) (by kernel_rfl) (by kernel_rfl) (by kernel_rfl) (by kernel_rfl) (fun _ _ _ h => h) (⟨(cells4 (row_grow HR.out GD)).2.2.1, (cells4 (row_grow HR.out GD)).2.2.2⟩) (Or.inl ⟨by rfl, ?_⟩) ?_
    rotate_left
    · (intro w' hSw; (try dsimp only at hSw); obtain ⟨hs0, hs1⟩ := hSw; go_simp <;> with_reducible rfl)
    try simp only [Act.put, List.getElem_toArray, List.getElem_cons_succ, List.getElem_cons_zero, List.setIfInBounds_toArray, List.set_cons_zero, List.set_cons_succ]
    refine but_take (i := 7) (v := ?_) 14 rfl (by kernel_rfl) (by kernel_rfl) (by kernel_rfl) (by kernel_rfl) (by kernel_rfl) (fun _ _ _ h => h) (⟨(cells4 (row_grow HR.out GD)).2.2.1, (cells4 (row_grow HR.out GD)).2.2.2⟩) (Or.inl ⟨by rfl, ?_⟩) ?_
    rotate_left
    · (intro w' hSw; (try dsimp only at hSw); obtain ⟨hs0, hs1⟩ := hSw; go_simp <;> with_reducible rfl)
    try simp only [Act.put, List.getElem_toArray, List.getElem_cons_succ, List.getElem_cons_zero, List.setIfInBounds_toArray, List.set_cons_zero, List.set_cons_succ]
    refine but_one (i := 3) (by kernel_rfl) rfl ?_
    intro K HK'
    have HK := Lib.hid HK'
    clear HK'
    skip
    try simp only [List.getElem_toArray, List.getElem_cons_succ, List.getElem_cons_zero]
    go_simp
    go_at_call 166
    refine (ref_number _ HI2.out).mono ?_
    rintro e w3 ⟨v3, rfl, ho3, hb3⟩
    have HO3 := Lib.hid ho3
    have R3 := Lib.hid (row_grow (row_grow HR.out GD) hb3)
    have GG3 := Grow.trans (Grow.trans HG.out GD) hb3
    have HP3 := Lib.hid (OwnB.grow (OwnB.grow HO.out GD) hb3)
    clear ho3 hb3
    refine HK.out _ _ ⟨fun _ => ⟨(cells4 R3.out).2.2.1, (cells4 R3.out).2.2.2⟩, ?_⟩
    clear HK K
    try simp only [Act.put, List.getElem_toArray, List.getElem_cons_succ, List.getElem_cons_zero, List.setIfInBounds_toArray, List.set_cons_zero, List.set_cons_succ]
    refine but_one (i := 4) (by kernel_rfl) rfl ?_
    intro K HK'
    have HK := Lib.hid HK'
    clear HK'
    refine wanted_go rfl ?_
    try simp only [List.getElem_toArray, List.getElem_cons_succ, List.getElem_cons_zero]
    refine appR (.tmp 15) (.tmp 18) rfl rfl HP3.out (Array.getElem?_eq_some_iff.1 R3.out).1 rfl HO3.out (by have := HLP.out; have := HN2.out; omega) ?_
    intro v4 w4 ho4 hm4
    obtain ⟨a4, k4, rfl⟩ := owns_form ho4
    have HO4 := Lib.hid ho4
    have R4 := Lib.hid (hm4.row R3.out (fun q hq => by have := World.ownsRow.lt HP3.out q hq; have := HNE.out q; omega))
    have GG4 := hm4.all GG3 (fun q hq => by have := World.ownsRow.lt HP3.out q hq; omega)
    clear ho4 hm4
    have HL4 : Hid ((pre ++ numB m.house).length ≤ 21) := Lib.hid (by have := HLP.out; have := HN2.out; rw [List.length_append]; omega)
    generalize pre ++ numB m.house = pre4 at *
    refine HK.out _ _ ⟨fun _ => ⟨(cells4 R4.out).2.2.1, (cells4 R4.out).2.2.2⟩, ?_⟩
    clear HK K
    try simp only [Act.put, List.setIfInBounds_toArray, List.set_cons_zero, List.set_cons_succ]
    refine but_one (i := 8) (by kernel_rfl) rfl ?_
    intro K HK'
    have HK := Lib.hid HK'
    clear HK'
    skip
    try simp only [List.getElem_toArray, List.getElem_cons_succ, List.getElem_cons_zero]
    go_simp
    go_at_call 166
    refine (ref_number _ HI3.out).mono ?_
    rintro e w8 ⟨v8, rfl, ho8, hb8⟩
    have HO8 := Lib.hid ho8
    have R8 := Lib.hid (row_grow R4.out hb8)
    have GG8 := Grow.trans GG4 hb8
    have HP8 := Lib.hid (OwnB.grow HO4.out hb8)
    clear ho8 hb8
    refine HK.out _ _ ⟨fun _ => ⟨(cells4 R8.out).2.2.1, (cells4 R8.out).2.2.2⟩, ?_⟩
    clear HK K
    try simp only [Act.put, List.getElem_toArray, List.getElem_cons_succ, List.getElem_cons_zero, List.setIfInBounds_toArray, List.set_cons_zero, List.set_cons_succ]
    refine but_one (i := 9) (by kernel_rfl) rfl ?_
    intro K HK'
    have HK := Lib.hid HK'
    clear HK'
    refine wanted_go rfl ?_
    try simp only [List.getElem_toArray, List.getElem_cons_succ, List.getElem_cons_zero]
    refine appR (.tmp 19) (.tmp 23) rfl rfl HP8.out (Array.getElem?_eq_some_iff.1 R8.out).1 rfl HO8.out (by have := HL4.out; have := HN3.out; omega) ?_
    intro v9 w9 ho9 hm9
    obtain ⟨a9, k9, rfl⟩ := owns_form ho9
    have HO9 := Lib.hid ho9
    have R9 := Lib.hid (hm9.row R8.out (fun q hq => by have := World.ownsRow.lt HP8.out q hq; have := HNE.out q; omega))
    have GG9 := hm9.all GG8 (fun q hq => by have := World.ownsRow.lt HP8.out q hq; omega)
    clear ho9 hm9
    have HL0 : Hid ((pre4 ++ numB (m.parts.length : Int)).length ≤ 31) := Lib.hid (by have := HL4.out; have := HN3.out; rw [List.length_append]; omega)
    generalize pre4 ++ numB (m.parts.length : Int) = b0 at *
    refine HK.out _ _ ⟨fun _ => ⟨(cells4 R9.out).2.2.1, (cells4 R9.out).2.2.2⟩, ?_⟩
    clear HK K
    try simp only [Act.put, List.setIfInBounds_toArray, List.set_cons_zero, List.set_cons_succ]
    refine but_one (i := 10) (by kernel_rfl) rfl ?_
    intro K HK'
    have HK := Lib.hid HK'
    clear HK'
    skip
    try simp only [List.getElem_toArray, List.getElem_cons_succ, List.getElem_cons_zero]
    go_simp
    refine HK.out _ _ ⟨fun h => absurd rfl h, ?_⟩
    clear HK K
    try simp only [Act.put, List.getElem_toArray, List.getElem_cons_succ, List.getElem_cons_zero, List.setIfInBounds_toArray, List.set_cons_zero, List.set_cons_succ]
    refine but_done (by kernel_rfl) ?_
    skip
    have HB0 := Lib.hid GG9
    obtain ⟨ap', cp', he, h1, h2, -, hel⟩ := HEL.out
    obtain ⟨rfl, rfl⟩ : ap = ap' ∧ cp = cp' := by simpa using he
    unfold maxLen at h2
    have HO0 := Lib.hid HO9.out
    have HR0 := Lib.hid R9.out
    obtain ⟨c0, c1, c2, c3⟩ := cells4 HR0.out
    have z0 : w.heap.size < w9.heap.size := (Array.getElem?_eq_some_iff.1 HR0.out).1
    clear he HNE
    go_wp2
    go_loopw [3, 28] (fun bv i wr => ∃ k : Nat, k ≤ m.parts.length ∧ i = .int .i64 k ∧ Grow w wr ∧ w.heap.size < wr.heap.size ∧ OwnB wr (w.heap.size + 1) bv (b0 ++ (m.parts.take k).flatMap partBytes)) (fun _ i _ => m.parts.length - (intOf i).toNat)
    case atStart => exact ⟨0, by omega, rfl, HB0.out, z0, by simpa using HO0.out⟩
    case round =>
      obtain ⟨k, hk', rfl, hb, hz, hown⟩ := hrel
      obtain ⟨a2, k2, rfl⟩ := owns_form hown
      by_cases hlt : k < m.parts.length
      · obtain ⟨b, o, rfl, d0, d1, d2, -, i1, i2⟩ := Pts.at_ hel k hlt
        replace d0 := hb.sub _ _ d0
        replace d1 := hb.sub _ _ d1
        replace d2 := hb.sub _ _ d2
        have HN := Lib.hid (show b0 ++ (m.parts.take (k + 1)).flatMap partBytes = (b0 ++ (m.parts.take k).flatMap partBytes ++ numB m.parts[k].k) ++ numB m.parts[k].n by
          rw [flat_snoc partBytes hlt]
          simp [partBytes])
        have hlk : (m.parts.take k).length ≤ 4 := by rw [List.length_take]; omega
        have hln : (b0 ++ (m.parts.take k).flatMap partBytes).length ≤ 131 := by
          have := HPL.out k
          have := HL0.out
          rw [List.length_append]; omega
        have HLN := Lib.hid hln
        have HJ1 := Lib.hid i1
        have HJ2 := Lib.hid i2
        have HNK := Lib.hid (numB_len (i64_bounds i1).1 (i64_bounds i1).2)
        have HNN := Lib.hid (numB_len (i64_bounds i2).1 (i64_bounds i2).2)
        have HOW := Lib.hid hown
        have HB := Lib.hid hb
        have HZ := Lib.hid hz
        clear hel i1 i2 hlk hln hown hb c0 c1 c2 c3 HL0 HO0
        generalize b0 ++ (m.parts.take k).flatMap partBytes = pr at *
        generalize m.parts[k] = p at *
        obtain ⟨ph, pk, pn⟩ := p
        simp only at d0 d1 d2 HJ1 HJ2 HN HNK HNN
        have HNE : Hid (∀ q, (Value.slice a2 pr.length k2).ownBlock = some q → q < wr.heap.size) := Lib.hid (fun q hq => (World.ownsRow.lt HOW.out q hq).2)
        have RP := Lib.hid (row_new wr (.cells #[.int .i64 ph, .int .i64 pk, .int .i64 pn] 32))
        have HOA := Lib.hid (HOW.out.grow ((Grow.refl wr).alloc (.cells #[.int .i64 ph, .int .i64 pk, .int .i64 pn] 32)))
        have HGA : Hid (Grow w (wr.alloc (.cells #[.int .i64 ph, .int .i64 pk, .int .i64 pn] 32))) := Lib.hid (HB.out.alloc _)
        go_upto_region 6 with fail
        obtain ⟨wa, hwa⟩ : ∃ x : World, x = wr.alloc (.cells #[.int .i64 ph, .int .i64 pk, .int .i64 pn] 32) := ⟨_, rfl⟩
        rw [← hwa] at RP HOA HGA ⊢
        have HZA : Hid (wa.heap.size = wr.heap.size + 1) := Lib.hid (by rw [hwa]; simp)
        clear hwa

        refine but_start (fun w' => w'.cell? ⟨wr.heap.size, 1, none⟩ = some (.int .i64 pk) ∧ w'.cell? ⟨wr.heap.size, 2, none⟩ = some (.int .i64 pn)) 9 (by kernel_rfl) ?_
        obtain ⟨wd, hWd⟩ : ∃ x : World, x = wa.drew := ⟨_, rfl⟩
        rw [← hWd]
        have GD : Grow wa wd := by rw [hWd]; exact (Grow.refl _).drew
        have zD : wa.heap.size = wd.heap.size := by rw [hWd]; rfl
        have ZD := Lib.hid zD
        clear hWd zD
        refine but_take (i := 0) (v := ?_) 13 rfl (by kernel_rfl) (by kernel_rfl) (by kernel_rfl) (by kernel_rfl) (by kernel_rfl) (fun _ _ _ h => h) (⟨(cells3 (row_grow RP.out GD)).2.1, (cells3 (row_grow RP.out GD)).2.2⟩) (Or.inl ⟨by rfl, ?_⟩) ?_
        rotate_left
        · (intro w' hSw; (try dsimp only at hSw); obtain ⟨hs0, hs1⟩ := hSw; go_simp <;> with_reducible rfl)
        try simp only [Act.put, List.getElem_toArray, List.getElem_cons_zero, List.setIfInBounds_toArray, List.set_cons_zero, List.set_cons_succ]
        refine but_take (i := 1) (v := ?_) 13 rfl (by kernel_rfl) (by kernel_rfl) (by kernel_rfl) (by kernel_rfl) (by kernel_rfl) (fun _ _ _ h => h) (⟨(cells3 (row_grow RP.out GD)).2.1, (cells3 (row_grow RP.out GD)).2.2⟩) (Or.inl ⟨by rfl, ?_⟩) ?_
        rotate_left
        · (intro w' hSw; (try dsimp only at hSw); obtain ⟨hs0, hs1⟩ := hSw; go_simp <;> with_reducible rfl)
        try simp only [Act.put, List.getElem_toArray, List.getElem_cons_succ, List.getElem_cons_zero, List.setIfInBounds_toArray, List.set_cons_zero, List.set_cons_succ]
        refine but_take (i := 2) (v := ?_) 13 rfl (by kernel_rfl) (by kernel_rfl) (by kernel_rfl) (by kernel_rfl) (by kernel_rfl) (fun _ _ _ h => h) (⟨(cells3 (row_grow RP.out GD)).2.1, (cells3 (row_grow RP.out GD)).2.2⟩) (Or.inl ⟨by rfl, ?_⟩) ?_
        rotate_left
        · (intro w' hSw; (try dsimp only at hSw); obtain ⟨hs0, hs1⟩ := hSw; go_simp <;> with_reducible rfl)
        try simp only [Act.put, List.getElem_toArray, List.getElem_cons_succ, List.getElem_cons_zero, List.setIfInBounds_toArray, List.set_cons_zero, List.set_cons_succ]
        refine but_take (i := 5) (v := ?_) 13 rfl (by kernel_rfl) (by kernel_rfl) (by kernel_rfl) (by kernel_rfl) (by kernel_rfl) (fun _ _ _ h => h) (⟨(cells3 (row_grow RP.out GD)).2.1, (cells3 (row_grow RP.out GD)).2.2⟩) (Or.inl ⟨by rfl, ?_⟩) ?_
        rotate_left
        · (intro w' hSw; (try dsimp only at hSw); obtain ⟨hs0, hs1⟩ := hSw; go_simp <;> with_reducible rfl)
        try simp only [Act.put, List.getElem_toArray, List.getElem_cons_succ, List.getElem_cons_zero, List.setIfInBounds_toArray, List.set_cons_zero, List.set_cons_succ]
        refine but_take (i := 6) (v := ?_) 13 rfl (by kernel_rfl) (by kernel_rfl) (by kernel_rfl) (by kernel_rfl) (by kernel_rfl) (fun _ _ _ h => h) (⟨(cells3 (row_grow RP.out GD)).2.1, (cells3 (row_grow RP.out GD)).2.2⟩) (Or.inl ⟨by rfl, ?_⟩) ?_
        rotate_left
        · (intro w' hSw; (try dsimp only at hSw); obtain ⟨hs0, hs1⟩ := hSw; go_simp <;> with_reducible rfl)
        try simp only [Act.put, List.getElem_toArray, List.getElem_cons_succ, List.getElem_cons_zero, List.setIfInBounds_toArray, List.set_cons_zero, List.set_cons_succ]
        refine but_one (i := 3) (by kernel_rfl) rfl ?_
        intro K HK'
        have HK := Lib.hid HK'
        clear HK'
        skip
        try simp only [List.getElem_toArray, List.getElem_cons_succ, List.getElem_cons_zero]
        go_simp
        go_at_call 166
        refine (ref_number _ HJ1.out).mono ?_
        rintro e w3 ⟨v3, rfl, ho3, hb3⟩
        have HO3 := Lib.hid ho3
        have R3 := Lib.hid (row_grow (row_grow RP.out GD) hb3)
        have GG3 := Grow.trans (Grow.trans HGA.out GD) hb3
        have HP3 := Lib.hid (OwnB.grow (OwnB.grow HOA.out GD) hb3)
        clear ho3 hb3
        refine HK.out _ _ ⟨fun _ => ⟨(cells3 R3.out).2.1, (cells3 R3.out).2.2⟩, ?_⟩
        clear HK K
        try simp only [Act.put, List.getElem_toArray, List.getElem_cons_succ, List.getElem_cons_zero, List.setIfInBounds_toArray, List.set_cons_zero, List.set_cons_succ]
        refine but_one (i := 4) (by kernel_rfl) rfl ?_
        intro K HK'
        have HK := Lib.hid HK'
        clear HK'
        refine wanted_go rfl ?_
        try simp only [List.getElem_toArray, List.getElem_cons_succ, List.getElem_cons_zero]
        refine appR (.tmp 32) (.tmp 35) rfl rfl HP3.out (by have := (Array.getElem?_eq_some_iff.1 R3.out).1; have := HZ.out; omega) rfl HO3.out (by have := HLN.out; have := HNK.out; omega) ?_
        intro v4 w4 ho4 hm4
        obtain ⟨a4, k4, rfl⟩ := owns_form ho4
        have HO4 := Lib.hid ho4
        have R4 := Lib.hid (hm4.row R3.out (fun q hq => by have := HNE.out q hq; omega))
        have GG4 := hm4.all GG3 (fun q hq => by have := World.ownsRow.lt HP3.out q hq; omega)
        have HNE4 : Hid (∀ q, (Value.slice a4 (pr ++ numB pk).length k4).ownBlock = some q → q ≠ wr.heap.size) := Lib.hid (fun q hq => by
          have hz2 := (Array.getElem?_eq_some_iff.1 R3.out).1
          rcases hm4.2 with e | ⟨g, e, hg⟩
          · rw [e] at hq; have := HNE.out q hq; omega
          · rw [e] at hq; obtain rfl := Option.some.inj hq; omega)
        clear ho4 hm4
        have HL4 : Hid ((pr ++ numB pk).length ≤ 141) := Lib.hid (by have := HLN.out; have := HNK.out; rw [List.length_append]; omega)
        generalize pr ++ numB pk = pr4 at *
        refine HK.out _ _ ⟨fun _ => ⟨(cells3 R4.out).2.1, (cells3 R4.out).2.2⟩, ?_⟩
        clear HK K
        try simp only [Act.put, List.setIfInBounds_toArray, List.set_cons_zero, List.set_cons_succ]
        refine but_one (i := 7) (by kernel_rfl) rfl ?_
        intro K HK'
        have HK := Lib.hid HK'
        clear HK'
        skip
        try simp only [List.getElem_toArray, List.getElem_cons_succ, List.getElem_cons_zero]
        go_simp
        go_at_call 166
        refine (ref_number _ HJ2.out).mono ?_
        rintro e w7 ⟨v7, rfl, ho7, hb7⟩
        have HO7 := Lib.hid ho7
        have R7 := Lib.hid (row_grow R4.out hb7)
        have GG7 := Grow.trans GG4 hb7
        have HP7 := Lib.hid (OwnB.grow HO4.out hb7)
        clear ho7 hb7
        refine HK.out _ _ ⟨fun _ => ⟨(cells3 R7.out).2.1, (cells3 R7.out).2.2⟩, ?_⟩
        clear HK K
        try simp only [Act.put, List.getElem_toArray, List.getElem_cons_succ, List.getElem_cons_zero, List.setIfInBounds_toArray, List.set_cons_zero, List.set_cons_succ]
        refine but_one (i := 8) (by kernel_rfl) rfl ?_
        intro K HK'
        have HK := Lib.hid HK'
        clear HK'
        refine wanted_go rfl ?_
        try simp only [List.getElem_toArray, List.getElem_cons_succ, List.getElem_cons_zero]
        refine appR (.tmp 36) (.tmp 39) rfl rfl HP7.out (by have := (Array.getElem?_eq_some_iff.1 R7.out).1; have := HZ.out; omega) rfl HO7.out (by have := HL4.out; have := HNN.out; omega) ?_
        intro v8 w8 ho8 hm8
        obtain ⟨a8, k8, rfl⟩ := owns_form ho8
        have HO8 := Lib.hid ho8
        have R8 := Lib.hid (hm8.row R7.out (fun q hq => by have := HNE4.out q hq; omega))
        have GG8 := hm8.all GG7 (fun q hq => by have := World.ownsRow.lt HP7.out q hq; omega)
        clear ho8 hm8
        generalize pr4 ++ numB pn = pr8 at *
        refine HK.out _ _ ⟨fun _ => ⟨(cells3 R8.out).2.1, (cells3 R8.out).2.2⟩, ?_⟩
        clear HK K
        try simp only [Act.put, List.setIfInBounds_toArray, List.set_cons_zero, List.set_cons_succ]
        refine but_one (i := 9) (by kernel_rfl) rfl ?_
        intro K HK'
        have HK := Lib.hid HK'
        clear HK'
        skip
        try simp only [List.getElem_toArray, List.getElem_cons_succ, List.getElem_cons_zero]
        go_simp
        refine HK.out _ _ ⟨fun h => absurd rfl h, ?_⟩
        clear HK K
        try simp only [Act.put, List.getElem_toArray, List.getElem_cons_succ, List.getElem_cons_zero, List.setIfInBounds_toArray, List.set_cons_zero, List.set_cons_succ]
        refine but_done (by kernel_rfl) ?_
        go_wp2
        go_roundw
        case rel => exact ⟨k + 1, by omega, by go_num, GG8, by have := HZ.out; have := (Array.getElem?_eq_some_iff.1 R8.out).1; omega, by rw [HN.out]; exact HO8.out⟩
        case measure => simp [intOf]; omega
      · rw [List.take_of_length_le (by omega), HM.out] at hown ⊢
        have HOW := Lib.hid hown
        have HB := Lib.hid hb
        have HZ := Lib.hid hz
        have HLH : Hid ((msgHead m).length ≤ 111) := Lib.hid (by
          rw [← HM.out, List.length_append]
          have := HPL.out m.parts.length
          rw [List.take_of_length_le (Nat.le_refl _)] at this
          have := HL0.out
          omega)
        obtain ⟨z1, hz1⟩ : ∃ z, z = UInt8.ofNat (sumB (msgHead m) / 256) := ⟨_, rfl⟩
        obtain ⟨z2, hz2⟩ : ∃ z, z = UInt8.ofNat (sumB (msgHead m)) := ⟨_, rfl⟩
        have hs1 := sumB_lt (msgHead m)
        have HS1 : Hid ((sumB (msgHead m) : Int) / 256 = (z1.toNat : Int)) := Lib.hid (by rw [hz1, byte_wrap]; omega)
        have HS2 : Hid ((sumB (msgHead m) : Int) % 256 = (z2.toNat : Int)) := Lib.hid (by rw [hz2, byte_wrap]; omega)
        have HBM : Hid (msgHead m ++ [z1, z2] = bytesM m) := Lib.hid (by rw [hz1, hz2]; rfl)
        have HSUM := Lib.hid (fun (W : World) (hW : Grow wr W) => ref_sum W ((HOW.out.grow hW).bts))
        clear hel hown hb hz hz1 hz2 c0 c1 c2 c3 HL0 HO0
        generalize sumB (msgHead m) = s at *
        generalize msgHead m = hd at *
        go_wp2_with fail
        refine (HSUM.out _ (Grow.refl _)).mono ?_
        rintro e w7 ⟨rfl, hb7⟩
        have HO7 := Lib.hid (HOW.out.grow hb7)
        have HB7 := Lib.hid (HB.out.trans hb7)
        have hsz7 : w.heap.size + 1 ≤ w7.heap.size := by have := hb7.size; have := HZ.out; omega
        clear hb7
        go_wp2_with (at_builtin; refine appB rfl _ _ rfl rfl HO7.out hsz7 rfl rfl [z1, z2] ?e0 rfl ?e1 ?_)
        case e0 => exact two_bytes (by first | exact HS1.out | (rw [← HS1.out]; omega)) (by first | exact HS2.out | (rw [← HS2.out]; omega))
        case e1 => have := HLH.out; simp; omega
        intro v9 w9 ho9 hm9
        have HO9 := Lib.hid (OwnB.low (base' := w.heap.size) ho9 (by omega))
        have HB9 := Lib.hid (hm9.all HB7.out (fun q hq => by have := World.ownsRow.lt HO7.out q hq; omega))
        clear ho9 hm9
        go_wp2
        go_ret
        exact ⟨_, rfl, by rw [← HBM.out]; exact HO9.out, HB9.out⟩
end Go.Proofs.Ytgbhpghgohggcaa

/- Walks: the document's Send. -/
namespace Go.Proofs.Ytgbhpghgohggcaa
open Go.RowKit
theorem sendB_full {l : List (List UInt8)} {ms : List Ms} {k : Nat} (h : 24 ≤ (sendB l (ms.take k)).length) : sendB l ms = sendB l (ms.take k) := by
  rw [sendB_len, List.length_take] at h
  unfold sendB
  rw [List.take_take]
  by_cases hk : 24 - l.length ≤ k
  · rw [Nat.min_eq_left hk]
  · have : ms.length ≤ k := by omega
    rw [List.take_of_length_le (i := 24 - l.length) (by omega), List.take_of_length_le (by omega)]
/-- all memory, one row aside -/
def nowhere (w : World) : World := { w with heap := #[] }
theorem fr_all (w : World) {W : World} {X : List (Option Nat)} (hg : Grow w W) (hX : ∀ k, some k ∈ X → w.heap.size ≤ k) : Sub w.cell? (fr (nowhere w) W X) := fun a v e => by
  have hl := World.block_lt_of_cell? w a e
  unfold fr
  rw [if_neg (by
    rintro (h | h)
    · simp [nowhere] at h
    · have := hX _ h; omega)]
  exact hg.sub _ _ e
set_option maxRecDepth 100000 in
set_option maxHeartbeats 1000000 in
theorem ref_send {v vm : Value} {l : List (List UInt8)} {ms : List Ms} (w : World) (hv : Nts w.cell? v l) (hms : Mss w.cell? vm ms) (hr : ∀ m ∈ ms, wrongM m = 0) (hm : l.length * 24 + 1000 ≤ 140737488355328) :
    Calls Try.prog 70 #[v, vm] w fun e w' => ∃ v', e = .returned v' ∧ Nts w'.cell? v' (sendB l ms) ∧ Grow w w' := by
  have HR := Lib.hid hr
  have HV := Lib.hid hv
  obtain ⟨av, cv, rfl, -⟩ := id hv
  obtain ⟨am, cm, rfl, h1, h2, -, hel⟩ := hms
  unfold maxLen at h2
  clear hv hr
  go_enter Try.func70, Try.ntmps70
  go_wp2_with (first | (at_builtin; refine wpList_appc (c := fr (nowhere w) (w.alloc (.cells #[] 69)) [(Value.slice (some ⟨w.heap.size, 0, none⟩) 0 0).ownBlock]) (base := w.heap.size) (l := []) (m := l) ei_bts rfl (one_Tsl Ty.byte) (by decide) rfl (.tmp 6) (.tmp 7) rfl rfl (OwnC.made0 Ty.bs _ _ _ _ ?c1 ?c1') rfl ?src ?c3 ?c4 ?_))
  case c1 => exact Nat.le_refl _
  case c1' => rfl
  case src =>
    have hS := fr_all w (W := w.alloc (.cells #[] 69)) (X := [(Value.slice (some ⟨w.heap.size, 0, none⟩) 0 0).ownBlock]) ((Grow.refl _).alloc _) (fun k hk => by simp [Value.ownBlock] at hk; omega)
    exact Src.of_sl_c (by decide) (fr_sub _ _ _) (HV.out.mono hS)
  case c3 => simp; omega
  case c4 => simp
  intro a4 c4 w4 ho4 hg4 hb4
  have HO4 : Hid (OwnC Ty.bs (fr (nowhere w) w4 [(Value.slice a4 l.length c4).ownBlock]) w4 w.heap.size 69 (.slice a4 l.length c4) l) := Lib.hid (by
    have hb5 : (Value.slice a4 l.length c4).ownBlock = (Value.slice (some ⟨w.heap.size, 0, none⟩) 0 0).ownBlock ∨ ∃ g, (Value.slice a4 l.length c4).ownBlock = some g ∧ (w.alloc (.cells #[] 69)).heap.size ≤ g := by
      rcases hb4 with e | ⟨g, e, hge⟩
      · exact .inl (by simpa using e)
      · exact .inr ⟨g, by simpa using e, by simpa using hge⟩
    have h9 := OwnC.mono (fr_app hg4 hb5) (by simpa using ho4)
    exact h9)
  have G4 := Lib.hid (grow_by (w0 := w) ((Grow.refl w).alloc _) hg4 (own_at (Nat.le_refl _)))
  try simp only [List.length_nil, Nat.zero_add]
  clear ho4 hg4 hb4
  go_wp2
  go_loopw [0, 5] (fun bv i wr => ∃ k : Nat, k ≤ ms.length ∧ i = .int .i64 k ∧ Grow w wr ∧ OwnC Ty.bs (fr (nowhere w) wr [bv.ownBlock]) wr w.heap.size 69 bv (sendB l (ms.take k))) (fun _ i _ => ms.length - (intOf i).toNat)
  case atStart => exact ⟨0, by omega, rfl, G4.out, by rw [List.take_zero, sendB_nil]; exact HO4.out⟩
  case round =>
    obtain ⟨k, hk', rfl, hb, hown⟩ := hrel
    obtain ⟨av, cv, rfl⟩ := hown.form
    by_cases hlt : k < ms.length
    · by_cases h24 : (sendB l (ms.take k)).length < 24
      · obtain ⟨b, o, vp, rfl, c0, c1, c2, c3, i0, i1, i2, hP⟩ := Mss.at_ hel k hlt
        obtain ⟨ap, cp, rfl, -⟩ := id hP
        replace c0 := hb.sub _ _ c0
        replace c1 := hb.sub _ _ c1
        replace c2 := hb.sub _ _ c2
        replace c3 := hb.sub _ _ c3
        have hw := HR.out ms[k] (List.getElem_mem _)
        have HST := Lib.hid (sendB_step (l := l) hlt)
        have HBY := Lib.hid (fun (W : World) (hW : Grow wr W) => ref_bytes (m := ms[k]) W ⟨_, rfl, _, rfl, i0, i1, i2, hP.mono (hb.trans hW).sub⟩ (right_kind hw) (right_len hw))
        have HOWN := Lib.hid hown
        have HB := Lib.hid hb
        clear hel hP hw hown i0 i1 i2 hb
        generalize ms[k] = m at *
        generalize sendB l (ms.take k) = lk at *
        have HST2 := Lib.hid (show sendB l (ms.take (k + 1)) = lk ++ [bytesM m] by rw [HST.out, if_pos h24])
        clear HST
        go_wp2_with fail
        refine (HBY.out _ (Grow.refl _)).mono ?_
        rintro e w2 ⟨v2, rfl, ho2, hb2⟩
        obtain ⟨a2, cap2, rfl⟩ := owns_form ho2
        have HO2 := Lib.hid ho2
        have HB2 := Lib.hid hb2
        clear ho2 hb2
        generalize bytesM m = r at *
        go_wp2_with (first | (at_builtin; refine wpList_appc (c := fr (nowhere w) (w2.alloc (.cells #[.slice a2 r.length cap2] 69)) [(Value.slice av lk.length cv).ownBlock]) (base := w.heap.size) (l := lk) (m := [r]) ei_bts rfl (one_Tsl Ty.byte) (by decide) rfl (.tmp 20) (.tmp 26) rfl rfl ?own rfl (Src.of_new (T := Ty.bs) (x := r) (cs := #[.slice a2 r.length cap2]) ?d0 _ _ ?d1) ?d2 ?d3 ?_))
        case own => exact (HOWN.out.mono (fr_grow (HB2.out.alloc _))).grow (HB2.out.alloc _)
        case d0 =>
          refine ⟨_, rfl, ?_⟩
          have hlt2 := HOWN.out.lt
          refine bts_fr (w1 := wr) ?_ (by simp [nowhere]) ?_
          · exact owns_grow HO2.out ((Grow.refl _).alloc _)
          · intro q hq
            simp only [List.mem_singleton]
            intro e
            have := (hlt2 q e.symm).2
            omega
        case d1 => simp
        case d2 => simp; omega
        case d3 => have := (HB2.out.alloc (.cells #[.slice a2 r.length cap2] 69)).size; have := HB.out.size; omega
        intro a5 c5 w5 hown5 hg5 hb5
        have hG5 : Grow w w5 := grow_by (w0 := w) (HB.out.trans (HB2.out.alloc _)) hg5 (fun q hq => (HOWN.out.lt q hq).1)
        have HO5 := Lib.hid (hown5.mono (fr_app hg5 (hb5.imp_right fun ⟨g, e, hge⟩ => ⟨g, e, by simpa using hge⟩)))
        have HG5 := Lib.hid hG5
        clear hown5 hg5 hb5 hG5
        go_wp2
        go_roundw
        case rel => exact ⟨k + 1, by omega, by go_num, HG5.out, by rw [HST2.out]; exact HO5.out⟩
        case measure => simp [intOf]; omega
      · have HF := Lib.hid (sendB_full (l := l) (ms := ms) (k := k) (by omega))
        clear hel
        have HOWN := Lib.hid hown
        have HB := Lib.hid hb
        clear hown hb
        go_wp2
        go_ret
        exact ⟨_, rfl, by rw [HF.out]; exact HOWN.out.sl (by decide) (fr_sub _ _ _), HB.out⟩
    · clear hel
      have HOWN := Lib.hid hown
      have HB := Lib.hid hb
      have HF : Hid (sendB l (ms.take k) = sendB l ms) := Lib.hid (by rw [List.take_of_length_le (by omega)])
      clear hown hb
      go_wp2
      go_ret
      exact ⟨_, rfl, by rw [← HF.out]; exact HOWN.out.sl (by decide) (fr_sub _ _ _), HB.out⟩
end Go.Proofs.Ytgbhpghgohggcaa

/- Walks: log.Note of the program. -/
namespace Go.Proofs.Ytgbhpghgohggcaa
open Go.RowKit
/-- an own row and a thing from elsewhere, in memory without the row -/
theorem frag_own {W0 w w' : World} {v : Value} (hg : Grow w w') : Sub (fr W0 w [v.ownBlock]) (frag w' v.ownBlock) := fun a u e => by
  unfold fr at e
  split at e
  · cases e
  · rename_i hn
    have h2 : some a.block ≠ v.ownBlock := fun e => hn (.inr (by simp [e]))
    unfold frag
    rw [if_neg h2]
    exact hg.sub _ _ e
theorem frag_app {w w' : World} {row : Option Nat} (hg : w.grownBy w' row) : Sub (frag w row) w'.cell? := fun a u e => by
  unfold frag at e
  split at e
  · cases e
  · rename_i hn
    rw [World.cell?_of_block (hg.block a.block (World.block_lt_of_cell? w a e) hn)]
    exact e
set_option maxRecDepth 100000 in
set_option maxHeartbeats 2000000 in
theorem wlog_note {v vr : Value} {h : Hs} {r : Rc} (w : World) (hv : Of Ty.hs w.cell? v h) (hr : Of Ty.rc w.cell? vr r) (hk : ∀ x ∈ h.log, KeysOk x.parts) (hkr : KeysOk r.parts) (hm : (h.log.length + 1) * 40 ≤ 140737488351232)
    (hp : ∀ x ∈ h.log, x.parts.length * 24 ≤ 140737488355328) (hpr : r.parts.length * 24 ≤ 140737488355328) :
    Calls Try.prog 38 #[v, vr] w fun e w' => ∃ v', e = .returned v' ∧ Of Ty.hs (ov (fun _ => none) w w') v' (noteE h r) ∧ Grow w w' := by
  obtain ⟨al, cl, ar, cr, ad, cd, rfl⟩ := hv.hs_form
  obtain ⟨ap, cp, rfl⟩ := hr.rc_form
  have hl := (Of.hs_log hv).1
  have hr3 : Ty.rc.R w.cell? #[.int .i64 r.kind, .int .i64 r.deed, .slice ap r.parts.length cp].toList r := Of.cells hr
  have HR := Lib.hid hr3
  have HOWN := Lib.hid (fun (W : World) (hW : Grow w W) => log_own W (hl.mono hW.sub) (by omega) hp)
  have hkk : ∀ x ∈ h.log ++ [r], KeysOk x.parts := by
    intro x hx
    rcases List.mem_append.1 hx with hx | hx
    · exact hk x hx
    · rw [List.mem_singleton.1 hx]; exact hkr
  have hpp : ∀ x ∈ h.log ++ [r], x.parts.length * 24 ≤ 140737488355328 := by
    intro x hx
    rcases List.mem_append.1 hx with hx | hx
    · exact hp x hx
    · rw [List.mem_singleton.1 hx]; exact hpr
  have HHS := Lib.hid (fun (v' : Value) (W : World) (hv' : Rcs W.cell? v' (h.log ++ [r])) => wlog_house W hv' hkk (by simpa using hm) hpp)
  have HM := Lib.hid hm
  have HG0 : Hid (Grow w (((w.alloc (.cells #[.slice al h.log.length cl, .int .i64 h.sums.a, .int .i64 h.sums.b, .int .i64 h.sums.c, .int .i64 h.sums.d, .slice ar h.ready.length cr, .slice ad h.done.length cd] 29)).alloc (.cells #[.int .i64 r.kind, .int .i64 r.deed, .slice ap r.parts.length cp] 48)).alloc (.cells zrow 29))) := Lib.hid ((((Grow.refl w).alloc _).alloc _).alloc _)
  have HR2 : Hid ((((w.alloc (.cells #[.slice al h.log.length cl, .int .i64 h.sums.a, .int .i64 h.sums.b, .int .i64 h.sums.c, .int .i64 h.sums.d, .slice ar h.ready.length cr, .slice ad h.done.length cd] 29)).alloc (.cells #[.int .i64 r.kind, .int .i64 r.deed, .slice ap r.parts.length cp] 48)).alloc (.cells zrow 29)).heap[w.heap.size]? = some (.cells #[.slice al h.log.length cl, .int .i64 h.sums.a, .int .i64 h.sums.b, .int .i64 h.sums.c, .int .i64 h.sums.d, .slice ar h.ready.length cr, .slice ad h.done.length cd] 29 (0, 0))) := Lib.hid (heap_later (heap_later (row_new _ _) _) _)
  have HR3 : Hid ((((w.alloc (.cells #[.slice al h.log.length cl, .int .i64 h.sums.a, .int .i64 h.sums.b, .int .i64 h.sums.c, .int .i64 h.sums.d, .slice ar h.ready.length cr, .slice ad h.done.length cd] 29)).alloc (.cells #[.int .i64 r.kind, .int .i64 r.deed, .slice ap r.parts.length cp] 48)).alloc (.cells zrow 29)).heap[w.heap.size + 1]? = some (.cells #[.int .i64 r.kind, .int .i64 r.deed, .slice ap r.parts.length cp] 48 (0, 0))) := Lib.hid (heap_later (by simpa using row_new (w.alloc (.cells #[.slice al h.log.length cl, .int .i64 h.sums.a, .int .i64 h.sums.b, .int .i64 h.sums.c, .int .i64 h.sums.d, .slice ar h.ready.length cr, .slice ad h.done.length cd] 29)) _) _)
  have HR4 : Hid ((((w.alloc (.cells #[.slice al h.log.length cl, .int .i64 h.sums.a, .int .i64 h.sums.b, .int .i64 h.sums.c, .int .i64 h.sums.d, .slice ar h.ready.length cr, .slice ad h.done.length cd] 29)).alloc (.cells #[.int .i64 r.kind, .int .i64 r.deed, .slice ap r.parts.length cp] 48)).alloc (.cells zrow 29)).heap[w.heap.size + 1 + 1]? = some (.cells zrow 29 (0, 0))) := Lib.hid (by simpa using row_new ((w.alloc (.cells #[.slice al h.log.length cl, .int .i64 h.sums.a, .int .i64 h.sums.b, .int .i64 h.sums.c, .int .i64 h.sums.d, .slice ar h.ready.length cr, .slice ad h.done.length cd] 29)).alloc (.cells #[.int .i64 r.kind, .int .i64 r.deed, .slice ap r.parts.length cp] 48)) _)
  clear hv hr hk hkr hm hp hpr hl hr3 hkk hpp
  go_enter Try.func38, Try.ntmps38
  go_wp2
  obtain ⟨w3, hWE⟩ : ∃ x : World, x = (((w.alloc (.cells #[.slice al h.log.length cl, .int .i64 h.sums.a, .int .i64 h.sums.b, .int .i64 h.sums.c, .int .i64 h.sums.d, .slice ar h.ready.length cr, .slice ad h.done.length cd] 29)).alloc (.cells #[.int .i64 r.kind, .int .i64 r.deed, .slice ap r.parts.length cp] 48)).alloc (.cells zrow 29)) := ⟨_, rfl⟩
  rw [← hWE] at HG0 HR2 HR3 HR4
  rw [← hWE]
  clear hWE
  obtain ⟨g0, -, -, -, -, -, -⟩ := cells7 HR2.out
  obtain ⟨g1, g2, g3⟩ := cells3 HR3.out
  have HS : Hid (∀ W, Grow w3 W → W.cell? ⟨w.heap.size, 0, none⟩ = some (.slice al h.log.length cl) ∧ W.cell? ⟨w.heap.size + 1, 0, none⟩ = some (.int .i64 r.kind) ∧ W.cell? ⟨w.heap.size + 1, 1, none⟩ = some (.int .i64 r.deed) ∧ W.cell? ⟨w.heap.size + 1, 2, none⟩ = some (.slice ap r.parts.length cp)) := fun W hW => ⟨hW.sub _ _ g0, hW.sub _ _ g1, hW.sub _ _ g2, hW.sub _ _ g3⟩
  have hz4 : w.heap.size + 1 + 1 < w3.heap.size := (Array.getElem?_eq_some_iff.1 HR4.out).1
  clear g0 g1 g2 g3
  refine but_start (fun w' => w'.cell? ⟨w.heap.size, 0, none⟩ = some (.slice al h.log.length cl) ∧ w'.cell? ⟨w.heap.size + 1, 0, none⟩ = some (.int .i64 r.kind) ∧ w'.cell? ⟨w.heap.size + 1, 1, none⟩ = some (.int .i64 r.deed) ∧ w'.cell? ⟨w.heap.size + 1, 2, none⟩ = some (.slice ap r.parts.length cp)) 7 (by kernel_rfl) ?_
  obtain ⟨wd, hWd⟩ : ∃ x : World, x = w3.drew := ⟨_, rfl⟩
  rw [← hWd]
  have GD : Grow w3 wd := by rw [hWd]; exact (Grow.refl _).drew
  have zD : w3.heap.size = wd.heap.size := by rw [hWd]; rfl
  have ZD := Lib.hid zD
  clear hWd zD
  refine but_take (i := 0) (v := ?_) 8 rfl (by kernel_rfl) (by kernel_rfl) (by kernel_rfl) (by kernel_rfl) (by kernel_rfl) (fun _ _ _ h => h) (HS.out _ GD) (Or.inl ⟨by rfl, ?_⟩) ?_
  rotate_left
  · (intro w' hSw; (try dsimp only at hSw); obtain ⟨hs0, hs1, hs2, hs3⟩ := hSw; go_simp <;> with_reducible rfl)
  try simp only [Act.put, List.getElem_toArray, List.getElem_cons_zero, List.setIfInBounds_toArray, List.set_cons_zero, List.set_cons_succ]
  refine but_take (i := 1) (v := ?_) 8 rfl (by kernel_rfl) (by kernel_rfl) (by kernel_rfl) (by kernel_rfl) (by kernel_rfl) (fun _ _ _ h => h) (HS.out _ GD) (Or.inl ⟨by rfl, ?_⟩) ?_
  rotate_left
  · (intro w' hSw; (try dsimp only at hSw); obtain ⟨hs0, hs1, hs2, hs3⟩ := hSw; go_simp <;> with_reducible rfl)
  try simp only [Act.put, List.getElem_toArray, List.getElem_cons_succ, List.getElem_cons_zero, List.setIfInBounds_toArray, List.set_cons_zero, List.set_cons_succ]
  refine but_take (i := 3) (v := ?_) 8 rfl (by kernel_rfl) (by kernel_rfl) (by kernel_rfl) (by kernel_rfl) (by kernel_rfl) (fun _ _ _ h => h) (HS.out _ GD) (Or.inl ⟨by rfl, ?_⟩) ?_
  rotate_left
  · (intro w' hSw; (try dsimp only at hSw); obtain ⟨hs0, hs1, hs2, hs3⟩ := hSw; go_simp <;> with_reducible rfl)
  try simp only [Act.put, List.getElem_toArray, List.getElem_cons_succ, List.getElem_cons_zero, List.setIfInBounds_toArray, List.set_cons_zero, List.set_cons_succ]
  refine but_two (i := 2) (j := 4) (by kernel_rfl) rfl rfl ?_ ?_
  · skip
    intro K HK'
    have HK := Lib.hid HK'
    clear HK'
    skip
    try simp only [List.getElem_toArray, List.getElem_cons_succ, List.getElem_cons_zero]
    go_simp
    go_at_call 40
    refine (HOWN.out _ (HG0.out.trans GD)).mono ?_
    rintro e wo ⟨vo, rfl, ho, hbo⟩
    obtain ⟨ao, co, rfl⟩ := ho.form
    have HO := Lib.hid ho
    have GO := GD.trans hbo
    have HBO := Lib.hid hbo
    have ZO : Hid (w3.heap.size ≤ (wd).heap.size) := Lib.hid GD.size
    clear ho hbo
    refine HK.out _ _ ⟨fun _ => HS.out _ GO, ?_⟩
    clear HK K
    try simp only [Act.put, List.getElem_toArray, List.getElem_cons_succ, List.getElem_cons_zero, List.setIfInBounds_toArray, List.set_cons_zero, List.set_cons_succ]
    refine but_one (i := 4) (by kernel_rfl) rfl ?_
    intro K HK'
    have HK := Lib.hid HK'
    clear HK'
    skip
    try simp only [List.getElem_toArray, List.getElem_cons_succ, List.getElem_cons_zero]
    go_simp
    refine HK.out _ _ ⟨fun _ => HS.out _ (GO.alloc _), ?_⟩
    clear HK K
    try simp only [Act.put, List.getElem_toArray, List.getElem_cons_succ, List.getElem_cons_zero, List.setIfInBounds_toArray, List.set_cons_zero, List.set_cons_succ]
    refine but_one (i := 5) (by kernel_rfl) rfl ?_
    intro K HK'
    have HK := Lib.hid HK'
    clear HK'
    refine wanted_go rfl ?_
    try simp only [List.getElem_toArray, List.getElem_cons_succ, List.getElem_cons_zero]
    have HFR : Hid (Sub w.cell? (frag (wo.alloc (.cells #[.int .i64 r.kind, .int .i64 r.deed, .slice ap r.parts.length cp] 48)) (Value.slice ao h.log.length co).ownBlock)) := Lib.hid (frag_of_lt (HG0.out.trans (GO.alloc _)) fun q hq => by have := (HO.out.lt q hq).1; have := ZO.out; have := HG0.out.size; omega)
    refine wp_appc (c := (frag (wo.alloc (.cells #[.int .i64 r.kind, .int .i64 r.deed, .slice ap r.parts.length cp] 48)) (Value.slice ao h.log.length co).ownBlock)) (base := wd.heap.size) (l := h.log) (m := [r]) ei_rc rfl one_Trc (by decide) (.tmp 7) (.tmp 9) rfl rfl ((HO.out.mono (frag_own ((Grow.refl wo).alloc _))).grow ((Grow.refl wo).alloc _)) rfl (Src.of_new (T := Ty.rc) (cs := #[.int .i64 r.kind, .int .i64 r.deed, .slice ap r.parts.length cp]) (Ty.rc.mono HFR.out HR.out) _ _ rfl) (by have := HM.out; simp; omega) (by have := HBO.out.size; (try simp at this ⊢); omega) ?_
    intro a5 c5 w5 ho5 hg5 hb5
    have HR5 := Lib.hid (ho5.sl (by decide) (frag_app hg5))
    have G5 : Grow w3 w5 := grow_by (w0 := w3) (GO.alloc _) hg5 (fun q hq => by have := (HO.out.lt q hq).1; have := ZO.out; omega)
    clear ho5 hg5 hb5
    refine HK.out _ _ ⟨fun _ => HS.out _ G5, ?_⟩
    clear HK K
    try simp only [Act.put, List.setIfInBounds_toArray, List.set_cons_zero, List.set_cons_succ]
    refine but_one (i := 6) (by kernel_rfl) rfl ?_
    intro K HK'
    have HK := Lib.hid HK'
    clear HK'
    skip
    try simp only [List.getElem_toArray, List.getElem_cons_succ, List.getElem_cons_zero]
    go_simp
    go_at_call 36
    refine (HHS.out _ w5 HR5.out).mono ?_
    rintro e w6 ⟨vx, rfl, hX, hb6⟩
    change Of Ty.hs _ _ (noteE h r) at hX
    obtain ⟨x, hx⟩ : ∃ x, x = noteE h r := ⟨_, rfl⟩
    rw [← hx] at hX
    have HXE := Lib.hid hx
    clear hx
    obtain ⟨al2, cl2, ar2, cr2, ad2, cd2, rfl⟩ := hX.hs_form
    have HX := Lib.hid hX
    have G6 := G5.trans hb6
    have HB6 := Lib.hid hb6
    clear hX hb6
    refine HK.out _ _ ⟨fun _ => HS.out _ G6, ?_⟩
    clear HK K
    try simp only [Act.put, List.getElem_toArray, List.getElem_cons_succ, List.getElem_cons_zero, List.setIfInBounds_toArray, List.set_cons_zero, List.set_cons_succ]
    refine but_one (i := 7) (by kernel_rfl) rfl ?_
    intro K HK'
    have HK := Lib.hid HK'
    clear HK'
    refine wanted_go rfl ?_
    try simp only [List.getElem_toArray, List.getElem_cons_succ, List.getElem_cons_zero]
    refine wp_store_row (.tmp 4) (.tmp 11) rfl rfl rfl (row_grow HR4.out G6) info_hs rfl rfl ?_
    intro w7 r7 g7
    refine HK.out _ _ ⟨fun h => absurd rfl h, ?_⟩
    clear HK K
    try simp only [Act.put]
    refine but_done (by kernel_rfl) ?_
    obtain ⟨p0, p1, p2, p3, p4, p5, p6⟩ := cells7 r7
    go_wp2
    refine bodyPost_ret (v := .agg #[.slice al2 x.log.length cl2, .int .i64 x.sums.a, .int .i64 x.sums.b, .int .i64 x.sums.c, .int .i64 x.sums.d, .slice ar2 x.ready.length cr2, .slice ad2 x.done.length cd2]) (by simp [results, Try.results38, go_sem, p0, p1, p2, p3, p4, p5, p6]) rfl ?_
    rw [← HXE.out]
    refine ⟨_, rfl, HX.out.mono fun a u e => ?_, (HG0.out.trans G6).grown g7 (fun k hk => by simp at hk; omega)⟩
    have z1 := G5.size
    have z2 := HG0.out.size
    unfold ov at e ⊢
    split at e
    · cases e
    · rw [if_neg (by omega), by_cell g7 (World.block_lt_of_cell? w6 a e) (by omega)]; exact e
  · skip
    intro K HK'
    have HK := Lib.hid HK'
    clear HK'
    skip
    try simp only [List.getElem_toArray, List.getElem_cons_succ, List.getElem_cons_zero]
    go_simp
    refine HK.out _ _ ⟨fun _ => HS.out _ (GD.alloc _), ?_⟩
    clear HK K
    try simp only [Act.put, List.getElem_toArray, List.getElem_cons_succ, List.getElem_cons_zero, List.setIfInBounds_toArray, List.set_cons_zero, List.set_cons_succ]
    refine but_one (i := 2) (by kernel_rfl) rfl ?_
    intro K HK'
    have HK := Lib.hid HK'
    clear HK'
    skip
    try simp only [List.getElem_toArray, List.getElem_cons_succ, List.getElem_cons_zero]
    go_simp
    go_at_call 40
    refine (HOWN.out _ (HG0.out.trans (GD.alloc _))).mono ?_
    rintro e wo ⟨vo, rfl, ho, hbo⟩
    obtain ⟨ao, co, rfl⟩ := ho.form
    have HO := Lib.hid ho
    have GO := (GD.alloc _).trans hbo
    have HBO := Lib.hid hbo
    have ZO : Hid (w3.heap.size ≤ ((wd.alloc (.cells #[.int .i64 r.kind, .int .i64 r.deed, .slice ap r.parts.length cp] 48))).heap.size) := Lib.hid (GD.alloc _).size
    clear ho hbo
    refine HK.out _ _ ⟨fun _ => HS.out _ GO, ?_⟩
    clear HK K
    try simp only [Act.put, List.getElem_toArray, List.getElem_cons_succ, List.getElem_cons_zero, List.setIfInBounds_toArray, List.set_cons_zero, List.set_cons_succ]
    refine but_one (i := 5) (by kernel_rfl) rfl ?_
    intro K HK'
    have HK := Lib.hid HK'
    clear HK'
    refine wanted_go rfl ?_
    try simp only [List.getElem_toArray, List.getElem_cons_succ, List.getElem_cons_zero]
    have HFR : Hid (Sub w.cell? (frag wo (Value.slice ao h.log.length co).ownBlock)) := Lib.hid (frag_of_lt (HG0.out.trans GO) fun q hq => by have := (HO.out.lt q hq).1; have := ZO.out; have := HG0.out.size; omega)
    refine wp_appc (c := (frag wo (Value.slice ao h.log.length co).ownBlock)) (base := (wd.alloc (.cells #[.int .i64 r.kind, .int .i64 r.deed, .slice ap r.parts.length cp] 48)).heap.size) (l := h.log) (m := [r]) ei_rc rfl one_Trc (by decide) (.tmp 7) (.tmp 9) rfl rfl (HO.out.mono (frag_own (Grow.refl wo))) rfl ((Src.of_new (T := Ty.rc) (cs := #[.int .i64 r.kind, .int .i64 r.deed, .slice ap r.parts.length cp]) (Ty.rc.mono HFR.out HR.out) wd 48 rfl).grow HBO.out) (by have := HM.out; simp; omega) (by have := HBO.out.size; (try simp at this ⊢); omega) ?_
    intro a5 c5 w5 ho5 hg5 hb5
    have HR5 := Lib.hid (ho5.sl (by decide) (frag_app hg5))
    have G5 : Grow w3 w5 := grow_by (w0 := w3) GO hg5 (fun q hq => by have := (HO.out.lt q hq).1; have := ZO.out; omega)
    clear ho5 hg5 hb5
    refine HK.out _ _ ⟨fun _ => HS.out _ G5, ?_⟩
    clear HK K
    try simp only [Act.put, List.setIfInBounds_toArray, List.set_cons_zero, List.set_cons_succ]
    refine but_one (i := 6) (by kernel_rfl) rfl ?_
    intro K HK'
    have HK := Lib.hid HK'
    clear HK'
    skip
    try simp only [List.getElem_toArray, List.getElem_cons_succ, List.getElem_cons_zero]
    go_simp
    go_at_call 36
    refine (HHS.out _ w5 HR5.out).mono ?_
    rintro e w6 ⟨vx, rfl, hX, hb6⟩
    change Of Ty.hs _ _ (noteE h r) at hX
    obtain ⟨x, hx⟩ : ∃ x, x = noteE h r := ⟨_, rfl⟩
    rw [← hx] at hX
    have HXE := Lib.hid hx
    clear hx
    obtain ⟨al2, cl2, ar2, cr2, ad2, cd2, rfl⟩ := hX.hs_form
    have HX := Lib.hid hX
    have G6 := G5.trans hb6
    have HB6 := Lib.hid hb6
    clear hX hb6
    refine HK.out _ _ ⟨fun _ => HS.out _ G6, ?_⟩
    clear HK K
    try simp only [Act.put, List.getElem_toArray, List.getElem_cons_succ, List.getElem_cons_zero, List.setIfInBounds_toArray, List.set_cons_zero, List.set_cons_succ]
    refine but_one (i := 7) (by kernel_rfl) rfl ?_
    intro K HK'
    have HK := Lib.hid HK'
    clear HK'
    refine wanted_go rfl ?_
    try simp only [List.getElem_toArray, List.getElem_cons_succ, List.getElem_cons_zero]
    refine wp_store_row (.tmp 4) (.tmp 11) rfl rfl rfl (row_grow HR4.out G6) info_hs rfl rfl ?_
    intro w7 r7 g7
    refine HK.out _ _ ⟨fun h => absurd rfl h, ?_⟩
    clear HK K
    try simp only [Act.put]
    refine but_done (by kernel_rfl) ?_
    obtain ⟨p0, p1, p2, p3, p4, p5, p6⟩ := cells7 r7
    go_wp2
    refine bodyPost_ret (v := .agg #[.slice al2 x.log.length cl2, .int .i64 x.sums.a, .int .i64 x.sums.b, .int .i64 x.sums.c, .int .i64 x.sums.d, .slice ar2 x.ready.length cr2, .slice ad2 x.done.length cd2]) (by simp [results, Try.results38, go_sem, p0, p1, p2, p3, p4, p5, p6]) rfl ?_
    rw [← HXE.out]
    refine ⟨_, rfl, HX.out.mono fun a u e => ?_, (HG0.out.trans G6).grown g7 (fun k hk => by simp at hk; omega)⟩
    have z1 := G5.size
    have z2 := HG0.out.size
    unfold ov at e ⊢
    split at e
    · cases e
    · rw [if_neg (by omega), by_cell g7 (World.block_lt_of_cell? w6 a e) (by omega)]; exact e
end Go.Proofs.Ytgbhpghgohggcaa

/- Plain: what a head's log makes, record by record. -/
namespace Go.Proofs.Ytgbhpghgohggcaa
open Go.RowKit
theorem note_log (h : Hs) (r : Rc) : (noteE h r).log = h.log ++ [r] := log_house _
theorem headR_fold : ∀ (l : List Rc) (h : Hd) (x : List Rc), (l.foldl headStep { h with log := x }) = { (l.foldl headStep h) with log := x }
  | [], _, _ => rfl
  | r :: l, h, x => by
    rw [List.foldl_cons, List.foldl_cons, ← headR_fold l]
    congr 1
    unfold headStep
    split
    · rfl
    · split
      · rfl
      · split <;> rfl
theorem head_snoc (l : List Rc) (r : Rc) : headR (l ++ [r]) = { (headStep (headR l) r) with log := l ++ [r] } := by
  unfold headR
  rw [List.foldl_append]
  have := headR_fold l ⟨l, 0, 0, []⟩ (l ++ [r])
  simp only at this
  rw [this]
  show headStep _ r = _
  unfold headStep
  split
  · rfl
  · split
    · rfl
    · split <;> rfl
theorem headR_next (l : List Rc) : (headR l).next = 0 ∧ (headR l).log = l := by
  have : ∀ (k : List Rc) (h : Hd), (k.foldl headStep h).next = h.next ∧ (k.foldl headStep h).log = h.log := by
    intro k
    induction k with
    | nil => intro h; exact ⟨rfl, rfl⟩
    | cons r k ih =>
      intro h
      rw [List.foldl_cons, (ih _).1, (ih _).2]
      unfold headStep
      split
      · exact ⟨rfl, rfl⟩
      · split
        · exact ⟨rfl, rfl⟩
        · split <;> exact ⟨rfl, rfl⟩
  exact this l _
theorem dec_snoc (l : List Rc) (r : Rc) : decidedR (l ++ [r]) = if r.kind = 5 then decidedR l ++ [⟨r.deed, r.parts⟩] else decidedR l := by
  unfold decidedR
  rw [List.filter_append, List.map_append]
  split
  · rename_i h
    rw [List.filter_cons_of_pos (by simp [h])]; rfl
  · rename_i h
    rw [List.filter_cons_of_neg (by simp [h])]; simp
end Go.Proofs.Ytgbhpghgohggcaa

/- Walks: Decided of the program and of the document's answer. -/
namespace Go.Proofs.Ytgbhpghgohggcaa
open Go.RowKit
theorem dec_len (l : List Rc) : (decidedR l).length ≤ l.length := by
  unfold decidedR
  rw [List.length_map]
  exact List.length_filter_le _ _
set_option maxRecDepth 100000 in
set_option maxHeartbeats 2000000 in
theorem wlog_decided {v : Value} {l : List Rc} (w : World) (hv : Rcs w.cell? v l) (hm : l.length * 40 ≤ 140737488355328) (hp : ∀ r ∈ l, r.parts.length * 24 ≤ 140737488355328) :
    Calls Try.prog 45 #[v] w fun e w' => ∃ v', e = .returned v' ∧ OwnC Ty.rd (fr w w' [v'.ownBlock]) w' w.heap.size 45 v' (decidedR l) ∧ Grow w w' := by
  obtain ⟨a, cap, rfl, h1, h2, -, hel⟩ := hv
  unfold maxLen at h2
  have HM := Lib.hid hm
  have HP := Lib.hid hp
  clear hm hp
  go_enter Try.func45, Try.ntmps45
  go_wp2
  go_loopw [3, 8] (fun s3 i wr => ∃ k : Nat, k ≤ l.length ∧ i = .int .i64 k ∧ Grow w wr ∧ OwnC Ty.rd (fr w wr [s3.ownBlock]) wr w.heap.size 45 s3 (decidedR (l.take k))) (fun _ i _ => l.length - (intOf i).toNat)
  case atStart => exact ⟨0, by omega, rfl, Grow.refl _, OwnC.nil _ _ _ _ _⟩
  case round =>
    obtain ⟨k, hk', rfl, hb, hown⟩ := hrel
    by_cases hlt : k < l.length
    · obtain ⟨b, o, vp, rfl, c0, c1, c2, i0, i1, hP⟩ := Rcs.at_ hel k hlt
      obtain ⟨ap, cp, rfl, -⟩ := id hP
      replace c0 := hb.sub _ _ c0
      replace c1 := hb.sub _ _ c1
      replace c2 := hb.sub _ _ c2
      have htk : decidedR (l.take (k + 1)) = if l[k].kind = 5 then decidedR (l.take k) ++ [⟨l[k].deed, l[k].parts⟩] else decidedR (l.take k) := by rw [List.take_succ_eq_append_getElem hlt, dec_snoc]
      have HTK := Lib.hid htk
      have hpl := HP.out l[k] (List.getElem_mem _)
      have hok := Pts.ok (c := w.cell?) hP
      have HCL := Lib.hid (fun (W : World) (hW : Grow wr W) => clone_pt W (hP.mono (hb.trans hW).sub) hpl)
      have hlk : (decidedR (l.take k)).length ≤ l.length := Nat.le_trans (dec_len _) (by simp; omega)
      have HOWN := Lib.hid hown
      have HI := Lib.hid (And.intro i0 (And.intro i1 hok))
      obtain ⟨av, cv, rfl⟩ := hown.form
      have HLK := Lib.hid hlk
      clear hel hP htk hpl hok hown i0 i1 hlk
      generalize l[k] = r at *
      generalize decidedR (l.take k) = ds at *
      by_cases h5 : r.kind = 5
      · have b5 : (r.kind == 5) = true := by simp [h5]
        have HK5 := Lib.hid h5
        clear h5
        go_wp2
        obtain ⟨w2, hWE⟩ : ∃ x : World, x = wr.alloc (.cells #[.int .i64 r.kind, .int .i64 r.deed, .slice ap r.parts.length cp] 48) := ⟨_, rfl⟩
        rw [← hWE]
        have HG2 : Hid (Grow wr w2) := Lib.hid (by rw [hWE]; exact (Grow.refl wr).alloc _)
        have r5 : w2.heap[wr.heap.size]? = some (.cells #[.int .i64 r.kind, .int .i64 r.deed, .slice ap r.parts.length cp] 48 (0, 0)) := by rw [hWE]; exact row_new _ _
        clear hWE
        obtain ⟨-, q1, q2⟩ := cells3 r5
        have l5 : wr.heap.size < w2.heap.size := (Array.getElem?_eq_some_iff.1 r5).1
        have n5 : (Value.slice av ds.length cv).ownBlock ≠ some wr.heap.size := fun e => by have := (HOWN.out.lt _ e).2; omega
        have HS : Hid (∀ W, w2.grownBy W (Value.slice av ds.length cv).ownBlock → W.cell? ⟨wr.heap.size, 1, none⟩ = some (.int .i64 r.deed) ∧ W.cell? ⟨wr.heap.size, 2, none⟩ = some (.slice ap r.parts.length cp)) := fun W hW => ⟨by rw [World.cell?_of_block (hW.block wr.heap.size l5 (fun e => n5 e.symm))]; exact q1, by rw [World.cell?_of_block (hW.block wr.heap.size l5 (fun e => n5 e.symm))]; exact q2⟩
        clear q1 q2 r5
        refine but_start (fun w' => w'.cell? ⟨wr.heap.size, 1, none⟩ = some (.int .i64 r.deed) ∧ w'.cell? ⟨wr.heap.size, 2, none⟩ = some (.slice ap r.parts.length cp)) 9 (by kernel_rfl) ?_
        obtain ⟨wd, hWd⟩ : ∃ x : World, x = w2.drew := ⟨_, rfl⟩
        rw [← hWd]
        have GD : Grow w2 wd := by rw [hWd]; exact (Grow.refl _).drew
        have zD : w2.heap.size = wd.heap.size := by rw [hWd]; rfl
        have ZD := Lib.hid zD
        clear hWd zD
        refine but_take (i := 0) (v := ?_) 8 rfl (by kernel_rfl) (by kernel_rfl) (by kernel_rfl) (by kernel_rfl) (by kernel_rfl) (fun _ _ _ h => h) (HS.out _ (grownBy_of_grow GD _)) (Or.inl ⟨by rfl, ?_⟩) ?_
        rotate_left
        · (intro w' hSw; (try dsimp only at hSw); obtain ⟨hs0, hs1⟩ := hSw; go_simp <;> with_reducible rfl)
        try simp only [Act.put, List.getElem_toArray, List.getElem_cons_zero, List.setIfInBounds_toArray, List.set_cons_zero, List.set_cons_succ]
        refine but_take (i := 1) (v := ?_) 8 rfl (by kernel_rfl) (by kernel_rfl) (by kernel_rfl) (by kernel_rfl) (by kernel_rfl) (fun _ _ _ h => h) (HS.out _ (grownBy_of_grow GD _)) (Or.inl ⟨by rfl, ?_⟩) ?_
        rotate_left
        · (intro w' hSw; (try dsimp only at hSw); obtain ⟨hs0, hs1⟩ := hSw; go_simp <;> with_reducible rfl)
        try simp only [Act.put, List.getElem_toArray, List.getElem_cons_succ, List.getElem_cons_zero, List.setIfInBounds_toArray, List.set_cons_zero, List.set_cons_succ]
        refine but_take (i := 2) (v := ?_) 8 rfl (by kernel_rfl) (by kernel_rfl) (by kernel_rfl) (by kernel_rfl) (by kernel_rfl) (fun _ _ _ h => h) (HS.out _ (grownBy_of_grow GD _)) (Or.inl ⟨by rfl, ?_⟩) ?_
        rotate_left
        · (intro w' hSw; (try dsimp only at hSw); obtain ⟨hs0, hs1⟩ := hSw; go_simp <;> with_reducible rfl)
        try simp only [Act.put, List.getElem_toArray, List.getElem_cons_succ, List.getElem_cons_zero, List.setIfInBounds_toArray, List.set_cons_zero, List.set_cons_succ]
        refine but_take (i := 3) (v := ?_) 8 rfl (by kernel_rfl) (by kernel_rfl) (by kernel_rfl) (by kernel_rfl) (by kernel_rfl) (fun _ _ _ h => h) (HS.out _ (grownBy_of_grow GD _)) (Or.inl ⟨by rfl, ?_⟩) ?_
        rotate_left
        · (intro w' hSw; (try dsimp only at hSw); obtain ⟨hs0, hs1⟩ := hSw; go_simp <;> with_reducible rfl)
        try simp only [Act.put, List.getElem_toArray, List.getElem_cons_succ, List.getElem_cons_zero, List.setIfInBounds_toArray, List.set_cons_zero, List.set_cons_succ]
        refine but_take (i := 4) (v := ?_) 8 rfl (by kernel_rfl) (by kernel_rfl) (by kernel_rfl) (by kernel_rfl) (by kernel_rfl) (fun _ _ _ h => h) (HS.out _ (grownBy_of_grow GD _)) (Or.inl ⟨by rfl, ?_⟩) ?_
        rotate_left
        · (intro w' hSw; (try dsimp only at hSw); obtain ⟨hs0, hs1⟩ := hSw; go_simp <;> with_reducible rfl)
        try simp only [Act.put, List.getElem_toArray, List.getElem_cons_succ, List.getElem_cons_zero, List.setIfInBounds_toArray, List.set_cons_zero, List.set_cons_succ]
        refine but_one (i := 5) (by kernel_rfl) rfl ?_
        intro K HK'
        have HK := Lib.hid HK'
        clear HK'
        skip
        try simp only [List.getElem_toArray, List.getElem_cons_succ, List.getElem_cons_zero]
        go_simp
        go_at_call 122
        refine (HCL.out _ (HG2.out.trans GD)).mono ?_
        rintro e w3 ⟨v3, rfl, ho3, hb3⟩
        obtain ⟨a3, c3, rfl⟩ := owns_form ho3
        have HO3 := Lib.hid ho3
        have G3 := GD.trans hb3
        clear ho3 hb3
        refine HK.out _ _ ⟨fun _ => HS.out _ (grownBy_of_grow G3 _), ?_⟩
        clear HK K
        try simp only [Act.put, List.getElem_toArray, List.getElem_cons_succ, List.getElem_cons_zero, List.setIfInBounds_toArray, List.set_cons_zero, List.set_cons_succ]
        refine but_one (i := 6) (by kernel_rfl) rfl ?_
        intro K HK'
        have HK := Lib.hid HK'
        clear HK'
        skip
        try simp only [List.getElem_toArray, List.getElem_cons_succ, List.getElem_cons_zero]
        go_simp
        refine HK.out _ _ ⟨fun _ => HS.out _ (grownBy_of_grow G3 _), ?_⟩
        clear HK K
        try simp only [Act.put, List.getElem_toArray, List.getElem_cons_succ, List.getElem_cons_zero, List.setIfInBounds_toArray, List.set_cons_zero, List.set_cons_succ]
        refine but_one (i := 7) (by kernel_rfl) rfl ?_
        intro K HK'
        have HK := Lib.hid HK'
        clear HK'
        skip
        try simp only [List.getElem_toArray, List.getElem_cons_succ, List.getElem_cons_zero]
        go_simp
        refine HK.out _ _ ⟨fun _ => HS.out _ (grownBy_of_grow (G3.alloc _) _), ?_⟩
        clear HK K
        try simp only [Act.put, List.getElem_toArray, List.getElem_cons_succ, List.getElem_cons_zero, List.setIfInBounds_toArray, List.set_cons_zero, List.set_cons_succ]
        refine but_one (i := 8) (by kernel_rfl) rfl ?_
        intro K HK'
        have HK := Lib.hid HK'
        clear HK'
        refine wanted_go rfl ?_
        try simp only [List.getElem_toArray, List.getElem_cons_succ, List.getElem_cons_zero]
        have hR9 : Ty.rd.R (fr w (w3.alloc (.cells #[.int .i64 r.deed, .slice a3 r.parts.length c3] 45)) [(Value.slice av ds.length cv).ownBlock]) (#[.int .i64 r.deed, .slice a3 r.parts.length c3] : Array Value).toList ⟨r.deed, r.parts⟩ := by
          refine ⟨_, rfl, HI.out.2.1, pts_fr (w1 := wd) ((HO3.out).kept (grownBy_of_grow ((Grow.refl _).alloc _) none) (by cases (Value.slice a3 r.parts.length c3).ownBlock <;> simp)) HI.out.2.2 (by have := hb.size; have := HG2.out.size; have := GD.size; omega) fun q hq => ?_⟩
          have z1 := HOWN.out.lt
          have z4 := HG2.out.size
          have z6 := GD.size
          simp only [List.mem_cons, List.not_mem_nil, or_false]
          exact fun e => by have := (z1 q e.symm).2; omega
        have HR9 := Lib.hid hR9
        clear hR9
        refine wp_appc (c := (fr w (w3.alloc (.cells #[.int .i64 r.deed, .slice a3 r.parts.length c3] 45)) [(Value.slice av ds.length cv).ownBlock])) (base := w.heap.size) (l := ds) (m := [⟨r.deed, r.parts⟩]) ei_rd rfl one_Trd (by decide) (.tmp 15) (.tmp 22) rfl rfl ((HOWN.out.mono (fr_grow (HG2.out.trans (G3.alloc _)))).grow (HG2.out.trans (G3.alloc _))) rfl (Src.of_new (T := Ty.rd) (cs := #[.int .i64 r.deed, .slice a3 r.parts.length c3]) HR9.out _ _ rfl) (by have := HM.out; have := HLK.out; simp; omega) (by have := hb.size; have := HG2.out.size; have := G3.size; (try simp); omega) ?_
        intro a9 c9 w9 ho9 hg9 hb9
        have HO9 := Lib.hid (ho9.mono (fr_app hg9 (hb9.imp_right fun ⟨g, e, hge⟩ => ⟨g, e, by simpa using hge⟩)))
        have GB9 := Lib.hid (grownBy_trans (grownBy_of_grow (G3.alloc _) _) hg9)
        have HG9 : Hid (Grow w w9) := Lib.hid (grow_by (w0 := w) (hb.trans (HG2.out.trans (G3.alloc _))) hg9 (fun q hq => (HOWN.out.lt q hq).1))
        clear ho9 hg9 hb9
        refine HK.out _ _ ⟨fun _ => HS.out _ GB9.out, ?_⟩
        clear HK K
        try simp only [Act.put, List.setIfInBounds_toArray, List.set_cons_zero, List.set_cons_succ]
        refine but_one (i := 9) (by kernel_rfl) rfl ?_
        intro K HK'
        have HK := Lib.hid HK'
        clear HK'
        skip
        try simp only [List.getElem_toArray, List.getElem_cons_succ, List.getElem_cons_zero]
        go_simp
        refine HK.out _ _ ⟨fun h => absurd rfl h, ?_⟩
        clear HK K
        try simp only [Act.put, List.getElem_toArray, List.getElem_cons_succ, List.getElem_cons_zero, List.setIfInBounds_toArray, List.set_cons_zero, List.set_cons_succ]
        refine but_done (by kernel_rfl) ?_
        go_wp2
        go_roundw
        case rel => exact ⟨k + 1, by omega, by go_num, HG9.out, by rw [HTK.out, if_pos HK5.out]; exact HO9.out⟩
        case measure => simp [intOf]; omega
      · have b5 : (r.kind == 5) = false := by simp [h5]
        have HK5 := Lib.hid h5
        clear h5
        go_wp2
        go_roundw
        case rel => exact ⟨k + 1, by omega, by go_num, hb.alloc _, by rw [HTK.out, if_neg HK5.out]; exact (HOWN.out.mono (fr_grow ((Grow.refl _).alloc _))).grow ((Grow.refl _).alloc _)⟩
        case measure => simp [intOf]; omega
    · clear hel
      go_wp2
      go_ret
      have h9 := hown
      rw [List.take_of_length_le (by omega)] at h9
      exact ⟨_, rfl, h9, hb⟩
set_option maxRecDepth 100000 in
set_option maxHeartbeats 2000000 in
theorem ref_decided {c : CM} {v : Value} {l : List Rc} (w : World) (hc : Sub c w.cell?) (hv : Rcs c v l) (hm : l.length * 40 ≤ 140737488355328) :
    Calls Try.prog 46 #[v] w fun e w' => ∃ v', e = .returned v' ∧ OwnC Ty.rd c w' w.heap.size 45 v' (decidedR l) ∧ Grow w w' := by
  obtain ⟨a, cap, rfl, h1, h2, -, hel⟩ := hv
  unfold maxLen at h2
  have HM := Lib.hid hm
  clear hm
  go_enter Try.func46, Try.ntmps46
  go_wp2
  go_loopw [3, 8] (fun s3 i wr => ∃ k : Nat, k ≤ l.length ∧ i = .int .i64 k ∧ Grow w wr ∧ OwnC Ty.rd c wr w.heap.size 45 s3 (decidedR (l.take k))) (fun _ i _ => l.length - (intOf i).toNat)
  case atStart => exact ⟨0, by omega, rfl, Grow.refl _, OwnC.nil _ _ _ _ _⟩
  case round =>
    obtain ⟨k, hk', rfl, hb, hown⟩ := hrel
    by_cases hlt : k < l.length
    · obtain ⟨b, o, vp, rfl, c0, c1, c2, i0, i1, hP⟩ := Rcs.at_ hel k hlt
      obtain ⟨ap, cp, rfl, -⟩ := id hP
      replace c0 := hb.sub _ _ (hc _ _ c0)
      replace c1 := hb.sub _ _ (hc _ _ c1)
      replace c2 := hb.sub _ _ (hc _ _ c2)
      have htk : decidedR (l.take (k + 1)) = if l[k].kind = 5 then decidedR (l.take k) ++ [⟨l[k].deed, l[k].parts⟩] else decidedR (l.take k) := by rw [List.take_succ_eq_append_getElem hlt, dec_snoc]
      have HTK := Lib.hid htk
      have hlk : (decidedR (l.take k)).length ≤ l.length := Nat.le_trans (dec_len _) (by simp; omega)
      have HOWN := Lib.hid hown
      have HI := Lib.hid (And.intro i1 hP)
      obtain ⟨av, cv, rfl⟩ := hown.form
      have HLK := Lib.hid hlk
      clear hel hP htk hown i0 i1 hlk
      generalize l[k] = r at *
      generalize decidedR (l.take k) = ds at *
      by_cases h5 : r.kind = 5
      · have b5 : (r.kind == 5) = true := by simp [h5]
        have HK5 := Lib.hid h5
        clear h5
        go_wp2_with (first | (at_builtin; refine wpList_appc (c := c) (base := w.heap.size) (l := ds) (m := [⟨r.deed, r.parts⟩]) ei_rd rfl one_Trd (by decide) rfl (.tmp 15) (.tmp 21) rfl rfl ?own rfl (Src.of_new (T := Ty.rd) (cs := #[.int .i64 r.deed, .slice ap r.parts.length cp]) ⟨_, rfl, HI.out.1, HI.out.2⟩ _ _ ?d1) ?d2 ?d3 ?_))
        case own => exact HOWN.out.grow (((Grow.refl _).alloc _).alloc _)
        case d1 => simp
        case d2 => have := HM.out; have := HLK.out; simp; omega
        case d3 => have := hb.size; simp; omega
        intro a9 c9 w9 ho9 hg9 hb9
        have HG9 : Hid (Grow w w9) := Lib.hid (grow_by (w0 := w) ((hb.alloc _).alloc _) hg9 (fun q hq => (HOWN.out.lt q hq).1))
        have HO9 := Lib.hid ho9
        clear ho9 hg9 hb9
        go_wp2
        go_roundw
        case rel => exact ⟨k + 1, by omega, by go_num, HG9.out, by rw [HTK.out, if_pos HK5.out]; exact HO9.out⟩
        case measure => simp [intOf]; omega
      · have b5 : (r.kind == 5) = false := by simp [h5]
        have HK5 := Lib.hid h5
        clear h5
        go_wp2
        go_roundw
        case rel => exact ⟨k + 1, by omega, by go_num, hb.alloc _, by rw [HTK.out, if_neg HK5.out]; exact HOWN.out.grow ((Grow.refl _).alloc _)⟩
        case measure => simp [intOf]; omega
    · clear hel
      go_wp2
      go_ret
      have h9 := hown
      rw [List.take_of_length_le (by omega)] at h9
      exact ⟨_, rfl, h9, hb⟩
end Go.Proofs.Ytgbhpghgohggcaa

/- Walks: slices.DeleteFunc on a row of the call's own, whose elements read in a memory that stays. -/
namespace Go.Proofs.Ytgbhpghgohggcaa
open Go.RowKit
set_option maxRecDepth 100000 in
set_option maxHeartbeats 1000000 in
theorem deleteFunc_opn_c {c : CM} {w : World} {base : Nat} {v : Value} {l : List Opn} {F : FuncId} {caps : Array Value} {p : Opn → Bool} (hc : Sub c (frag w v.ownBlock)) (ho : OwnC Ty.opn c w base 136 v l) (hp : TellsG Try.prog Ty.opn aggOf w v.ownBlock F caps l p) :
    Calls Try.prog 124 #[v, .func (.func F) #[] caps] w fun e w' => ∃ v', e = .returned v' ∧ OwnC Ty.opn c w' base 136 v' (l.filter fun x => !p x) ∧ w.grownBy w' v.ownBlock ∧ v'.ownBlock = v.ownBlock := by
  have hIdx := indexFunc_opn w (OwnC.sl (by decide) (hc.trans (frag_sub _ _)) ho) hp.tells
  cases hfi : l.findIdx? p with
  | none =>
    have hx : idxOf p l = -1 := by rw [idxOf, hfi]
    have HF := Lib.hid (filter_none hfi)
    rw [hx] at hIdx
    have HI := Lib.hid hIdx
    have HO := Lib.hid ho
    clear hIdx hx hfi ho hp
    go_enter Try.func124, Try.ntmps124
    go_wp2_with (go_at_call 156; refine HI.out.mono ?_; rintro e w1 ⟨rfl, hb1⟩)
    go_ret
    exact ⟨_, rfl, by rw [HF.out]; exact HO.out.grow hb1, grownBy_of_grow hb1 _, rfl⟩
  | some k =>
    have hx : idxOf p l = k := by rw [idxOf, hfi]
    rw [hx] at hIdx
    rw [List.findIdx?_eq_some_iff_getElem] at hfi
    obtain ⟨hk, hpk, hbefore⟩ := hfi
    obtain ⟨css, hown, hcl0, hR⟩ := ho
    have hcl := css_len hcl0 hR
    obtain ⟨hl, ⟨rfl, hn⟩ | ⟨g, cap, cur, rfl, hb, hg, hnc, hcm, hcs, htake⟩⟩ := id hown
    · omega
    have hbl : (Value.slice (some (⟨g, 0, none⟩ : Addr)) l.length cap).ownBlock = some g := rfl
    rw [hbl] at hp hc ⊢
    have HCC := Lib.hid hc
    clear hc
    have hf0 : (l.take (k + 1)).filter (fun x => !p x) = l.take k := by
      rw [filter_take_succ _ hk, hpk]
      simp only [Bool.not_true, Bool.false_eq_true, if_false, List.append_nil]
      rw [List.filter_eq_self]
      intro x hx
      obtain ⟨j, hj, rfl⟩ := List.mem_iff_getElem.1 hx
      have := hbefore j (by simp at hj; omega)
      simpa using this
    have hkne : ((k : Int) == -1) = false := by rw [beq_eq_false_iff_ne]; omega
    have hcm' : cap ≤ 9223372036854775807 := by unfold maxLen at hcm; omega
    have HI := Lib.hid hIdx
    have HO := Lib.hid hown
    have HR := Lib.hid hR
    have HP := Lib.hid hp.say
    have eg := hp.ent
    have HF := Lib.hid hf0
    have HC := Lib.hid hcl
    have HC0 := Lib.hid hcl0
    clear hIdx hown hR hp hf0 hcl hcl0 hl hg htake hcs hb hcm hbefore hpk hx
    go_enter Try.func124, Try.ntmps124
    go_wp2_with (go_at_call 156; refine HI.out.mono ?_; rintro e w1 ⟨rfl, hb1⟩)
    go_loopw [5, 6, 7] (fun si sj _ wr => ∃ (i j : Nat) (css' : List (List Value)), i < j ∧ j ≤ l.length ∧ si = .int .i64 i ∧ sj = .int .i64 j ∧ w.grownBy wr (some g) ∧ css'.length = l.length ∧ (∀ cs ∈ css', cs.length = 4) ∧
        wr.ownsRow base 136 4 (.slice (some ⟨g, 0, none⟩) l.length cap) l.length css'.flatten ∧ css'.drop j = css.drop j ∧ ((l.take j).filter fun x => !p x).length = i ∧
        ∀ (a : Nat) (cs : List Value) (x : Opn), a < i → css'[a]? = some cs → ((l.take j).filter fun x => !p x)[a]? = some x → Ty.opn.R c cs x) (fun _ sj _ _ => l.length - (intOf sj).toNat)
    case atStart =>
      refine ⟨k, k + 1, css, by omega, by omega, rfl, by go_num, grownBy_of_grow hb1 _, HC0.out, HC.out, HO.out.kept (grownBy_of_grow hb1 none) (by right; simp [Value.ownBlock]), rfl, by rw [HF.out]; simp; omega, fun a cs x ha h1 h2 => ?_⟩
      rw [HF.out, List.getElem?_take, if_pos ha] at h2
      exact HR.out a cs x h1 h2
    case round =>
      obtain ⟨i, j, css', hij, hj', rfl, rfl, hgr, hl', hcs', hown', hdrop, hfl, hRi⟩ := hrel
      have HOWN := Lib.hid hown'
      have HCS := Lib.hid hcs'
      have HD := Lib.hid hdrop
      have HFL := Lib.hid hfl
      have HRI := Lib.hid hRi
      have HL' := Lib.hid hl'
      have HGR := Lib.hid hgr
      clear hown' hcs' hdrop hfl hRi hl' hgr hb1
      by_cases hlt : j < l.length
      · have hjc : css[j]? = some css[j]! := by rw [List.getElem?_eq_getElem (by rw [HC0.out]; exact hlt), getElem!_pos css j (by rw [HC0.out]; exact hlt)]
        obtain ⟨v1, v2, hcsj, hRR⟩ := HR.out j _ l[j] hjc (List.getElem?_eq_getElem hlt)
        obtain ⟨sa1, sc1, rfl, -⟩ := id hRR.2.1; obtain ⟨sa2, sc2, rfl, -⟩ := id hRR.2.2
        have hjc' : css'[j]? = some css[j]! := by
          have : (css'.drop j)[0]? = (css.drop j)[0]? := by rw [HD.out]
          rw [List.getElem?_drop, List.getElem?_drop, Nat.add_zero, hjc] at this
          exact this
        rw [hcsj] at hjc hjc'
        have hcj : ∀ (t : Nat) (u : Value), ([.int .i64 l[j].deed, .slice sa1 l[j].parts.length sc1, .bool l[j].dec, .slice sa2 l[j].heard.length sc2])[t]? = some u → t < 4 → wr.cell? ⟨g, j * 4 + t, none⟩ = some u := by
          intro t u hu ht
          rw [HOWN.out.cellAt _ (by omega), flatten_at (size := 4) (by decide) css' HCS.out, show (j * 4 + t) / 4 = j by omega, show (j * 4 + t) % 4 = t by omega, hjc']
          exact hu
        have hci : ∀ (t : Nat), t < 4 → ∃ u, wr.cell? ⟨g, i * 4 + t, none⟩ = some u := by
          intro t ht
          exact ⟨_, by rw [HOWN.out.cellAt _ (by omega)]; exact List.getElem?_eq_getElem (by rw [HOWN.out.1]; omega)⟩
        have hfz : ∀ o, wr.frozen? ⟨g, o, none⟩ = false := HOWN.out.frozenAt
        have hgl : g < wr.heap.size := (HOWN.out.lt g rfl).2
        have c0 : wr.cell? ⟨g, j * 4, none⟩ = some (.int .i64 l[j].deed) := hcj 0 _ rfl (by decide)
        have c1 : wr.cell? ⟨g, j * 4 + 1, none⟩ = some (.slice sa1 l[j].parts.length sc1) := hcj 1 _ rfl (by decide)
        have c2 : wr.cell? ⟨g, j * 4 + 2, none⟩ = some (.bool l[j].dec) := hcj 2 _ rfl (by decide)
        have c3 : wr.cell? ⟨g, j * 4 + 3, none⟩ = some (.slice sa2 l[j].heard.length sc2) := hcj 3 _ rfl (by decide)
        obtain ⟨u0, hu0⟩ : ∃ u, wr.cell? ⟨g, i * 4, none⟩ = some u := hci 0 (by decide)
        obtain ⟨u1, hu1⟩ : ∃ u, wr.cell? ⟨g, i * 4 + 1, none⟩ = some u := hci 1 (by decide)
        obtain ⟨u2, hu2⟩ : ∃ u, wr.cell? ⟨g, i * 4 + 2, none⟩ = some u := hci 2 (by decide)
        obtain ⟨u3, hu3⟩ : ∃ u, wr.cell? ⟨g, i * 4 + 3, none⟩ = some u := hci 3 (by decide)
        have hRw : Ty.opn.R c [.int .i64 l[j].deed, .slice sa1 l[j].parts.length sc1, .bool l[j].dec, .slice sa2 l[j].heard.length sc2] l[j] := ⟨_, _, rfl, hRR⟩
        have hsay := fun (W : World) (hW : Grow wr W) => HP.out W _ l[j] (grownBy_trans HGR.out (grownBy_of_grow hW _)) (List.getElem_mem _) (Ty.opn.mono (Sub.trans HCC.out (Sub.trans (frag_grown (grownBy_trans HGR.out (grownBy_of_grow hW _))) (frag_sub _ _))) hRw)
        have hstep := filter_take_succ (fun x => !p x) hlt
        have HS := Lib.hid hsay
        have HST := Lib.hid hstep
        have HRW := Lib.hid hRw
        clear hsay hstep hcj hci hRw hRR hjc hjc' hcsj
        simp only [aggOf] at HS
        skip
        cases hq : p l[j]
        · rw [hq] at HS HST
          generalize l[j] = q at *
          go_wp2_with (go_at_fn F; refine (HS.out _ ((Grow.refl wr).alloc _)).mono ?_; rintro e w1 ⟨rfl, hb1⟩; have e0 := hb1.sub ⟨wr.heap.size, 0, none⟩ _ (World.cell?_alloc_new wr _ _ 0); have e1 := hb1.sub ⟨wr.heap.size, 1, none⟩ _ (World.cell?_alloc_new wr _ _ 1); have e2 := hb1.sub ⟨wr.heap.size, 2, none⟩ _ (World.cell?_alloc_new wr _ _ 2); have e3 := hb1.sub ⟨wr.heap.size, 3, none⟩ _ (World.cell?_alloc_new wr _ _ 3); simp at e0 e1 e2 e3; have d0 := (((Grow.refl wr).alloc _).trans hb1).sub _ _ hu0; have d1 := (((Grow.refl wr).alloc _).trans hb1).sub _ _ hu1; have d2 := (((Grow.refl wr).alloc _).trans hb1).sub _ _ hu2; have d3 := (((Grow.refl wr).alloc _).trans hb1).sub _ _ hu3; have df : ∀ o, w1.frozen? ⟨g, o, none⟩ = false := fun o => ((((Grow.refl wr).alloc _).trans hb1).frozen (p := ⟨g, o, none⟩) hgl).trans (hfz o); have dz := hb1.size; have HB1 := Lib.hid hb1; clear hb1)
          obtain ⟨hset, hsg⟩ := owns_set (cs := [.int .i64 q.deed, .slice sa1 q.parts.length sc1, .bool q.dec, .slice sa2 q.heard.length sc2]) (i := i) HCS.out (HOWN.out.kept (grownBy_of_grow (((Grow.refl wr).alloc _).trans HB1.out) none) (by right; simp [Value.ownBlock])) (by rw [HL'.out]; omega) rfl
          have HSET := Lib.hid hset
          have HSG := Lib.hid hsg
          clear hset hsg
          go_roundw
          case rel =>
            refine ⟨i + 1, j + 1, css'.set i [.int .i64 q.deed, .slice sa1 q.parts.length sc1, .bool q.dec, .slice sa2 q.heard.length sc2], by omega, by omega, by go_num, by go_num, grownBy_trans (grownBy_trans HGR.out (grownBy_of_grow (((Grow.refl wr).alloc _).trans HB1.out) _)) HSG.out, by simpa using HL'.out, ?_, HSET.out, ?_, ?_, ?_⟩
            · intro cs hc
              rcases List.mem_or_eq_of_mem_set hc with h | rfl
              · exact HCS.out cs h
              · rfl
            · rw [List.drop_set_of_lt (by omega)]
              have : (css'.drop j).drop 1 = (css.drop j).drop 1 := by rw [HD.out]
              simpa [List.drop_drop] using this
            · rw [HST.out]; simp [HFL.out]
            · intro a cs x ha h1 h2
              rw [HST.out] at h2
              simp only [Bool.not_false, if_true] at h2
              by_cases hai : a < i
              · rw [List.getElem?_set_ne (by omega)] at h1
                rw [List.getElem?_append_left (by rw [HFL.out]; exact hai)] at h2
                exact HRI.out a cs x hai h1 h2
              · obtain rfl : a = i := by omega
                rw [List.getElem?_append_right (by rw [HFL.out]; omega), HFL.out, Nat.sub_self] at h2
                rw [List.getElem?_set_self (by rw [HL'.out]; omega)] at h1
                obtain rfl := Option.some.inj h1
                obtain rfl := Option.some.inj h2
                exact HRW.out
          case measure => simp [intOf]; omega
        · rw [hq] at HS HST
          generalize l[j] = q at *
          go_wp2_with (go_at_fn F; refine (HS.out _ ((Grow.refl wr).alloc _)).mono ?_; rintro e w1 ⟨rfl, hb1⟩)
          have HB1 := Lib.hid hb1
          clear hb1
          go_roundw
          case rel =>
            refine ⟨i, j + 1, css', by omega, by omega, rfl, by go_num, grownBy_trans HGR.out (grownBy_of_grow (((Grow.refl wr).alloc _).trans HB1.out) _), HL'.out, HCS.out, HOWN.out.kept (grownBy_of_grow (((Grow.refl wr).alloc _).trans HB1.out) none) (by right; simp [Value.ownBlock]), ?_, ?_, ?_⟩
            · have : (css'.drop j).drop 1 = (css.drop j).drop 1 := by rw [HD.out]
              simpa [List.drop_drop] using this
            · rw [HST.out]; simp [HFL.out]
            · intro a cs x ha h1 h2
              rw [HST.out] at h2
              simp only [Bool.not_true, Bool.false_eq_true, if_false, List.append_nil] at h2
              exact HRI.out a cs x ha h1 h2
          case measure => simp [intOf]; omega
      · obtain rfl : j = l.length := by omega
        have hic : i ≤ cap := by omega
        obtain ⟨w2, hcl, HO2, HG2⟩ := clear_run ei_opn 0 HOWN.out i (l.length - i) (cap - i) (some ⟨g, i * 4, none⟩) (by omega) (fun _ => rfl) (by omega)
        have HCL := Lib.hid hcl
        have HO2' := Lib.hid HO2
        have HG2' := Lib.hid HG2
        clear hcl HO2 HG2 eg
        have hil : i < cap := by omega
        have hil2 : i ≤ l.length := by omega
        go_wp2_with fail
        rw [HCL.out]
        go_wp2
        go_ret
        refine ⟨_, rfl, ?_, grownBy_trans HGR.out HG2'.out, rfl⟩
        have hfin : (l.filter fun x => !p x).length = i := by have := HFL.out; rw [List.take_of_length_le (Nat.le_refl _)] at this; exact this
        refine ⟨css'.take i, ?_, by rw [List.length_take, HL'.out, hfin]; omega, fun a cs x h1 h2 => ?_⟩
        · have h := HO2'.out
          rw [flatten_take css' i HCS.out] at h
          rw [hfin]; exact h
        · rw [List.getElem?_take] at h1
          split at h1
          · rename_i hai
            have h3 := HRI.out a cs x hai h1 (by rw [List.take_of_length_le (Nat.le_refl _)]; exact h2)
            exact h3
          · cases h1

end Go.Proofs.Ytgbhpghgohggcaa

/- A head in its box, as the program walks its log: what stays and what changes. -/
namespace Go.Proofs.Ytgbhpghgohggcaa
open Go.RowKit
theorem info_hd : (Try.prog.info? 57).map (·.size) = some 4 := by kernel_rfl
abbrev zhead : Array Value := #[.slice none 0 0, .int .i64 0, .int .i64 0, .slice none 0 0]
def kmem (w w1 wr : World) (vl vo : Value) : CM := fr w wr [vl.ownBlock, vo.ownBlock, some w.heap.size, some w1.heap.size]
structure KBox (w w1 wr : World) (vl vo : Value) (l : List Rc) (h : Hd) : Prop where
  res : wr.heap[w.heap.size]? = some (.cells zhead 57 (0, 0))
  row : wr.heap[w1.heap.size]? = some (.cells #[vl, .int .i64 h.boot, .int .i64 h.next, vo] 57 (0, 0))
  log : OwnC Ty.rc (kmem w w1 wr vl vo) wr (w.heap.size + 1) 48 vl l
  opn : OwnC Ty.opn (kmem w w1 wr vl vo) wr (w1.heap.size + 1) 136 vo h.opn
  grow : Grow w wr
  size : w1.heap.size + 1 ≤ wr.heap.size
  lt : ∀ k, vl.ownBlock = some k → k < w1.heap.size
  w1 : w.heap.size + 1 ≤ w1.heap.size
structure KChg (w1 wr w' : World) (vo vo' : Value) : Prop where
  size : wr.heap.size ≤ w'.heap.size
  block : ∀ k, k < wr.heap.size → k ≠ w1.heap.size → vo.ownBlock ≠ some k → w'.heap[k]? = wr.heap[k]?
  opn : vo'.ownBlock = vo.ownBlock ∨ ∃ g, vo'.ownBlock = some g ∧ wr.heap.size ≤ g
theorem KChg.mem {w w1 wr w' : World} {vl vo vo' : Value} (c : KChg w1 wr w' vo vo') : Sub (kmem w w1 wr vl vo) (kmem w w1 w' vl vo') := by
  refine fr_step fun k hk _ hx => ?_
  simp only [List.mem_cons, List.not_mem_nil, or_false, not_or] at hx ⊢
  obtain ⟨x1, x2, x4, x5⟩ := hx
  refine ⟨c.block k hk (fun e => x5 (by rw [e])) (fun e => x2 e.symm), x1, ?_, x4, x5⟩
  rcases c.opn with e | ⟨g, e, hg⟩
  · rw [e]; exact x2
  · rw [e]; simp; omega
theorem KBox.put {w w1 wr w' : World} {vl vo vo' : Value} {l : List Rc} {h h' : Hd} (b : KBox w w1 wr vl vo l h) (c : KChg w1 wr w' vo vo') (hG : Grow w w')
    (row : w'.heap[w1.heap.size]? = some (.cells #[vl, .int .i64 h'.boot, .int .i64 h'.next, vo'] 57 (0, 0))) (opn : OwnC Ty.opn (kmem w w1 w' vl vo') w' (w1.heap.size + 1) 136 vo' h'.opn) : KBox w w1 w' vl vo' l h' where
  res := by
    have h1 := b.w1
    have h2 := b.size
    rw [c.block _ (by omega) (by omega) (fun e => by have := (b.opn.lt _ e).1; omega)]; exact b.res
  row := row
  log := by
    refine (b.log.mono c.mem).block fun k hk => ?_
    have h1 := b.lt k hk
    have h2 := b.size
    exact c.block k (by omega) (by omega) (fun e => by have := (b.opn.lt _ e).1; omega)
  opn := opn
  grow := hG
  size := Nat.le_trans b.size c.size
  lt := b.lt
  w1 := b.w1
theorem KBox.later {w w1 wr w' : World} {vl vo : Value} {l : List Rc} {h : Hd} (b : KBox w w1 wr vl vo l h) (hg : Grow wr w') : KBox w w1 w' vl vo l h :=
  have c : KChg w1 wr w' vo vo := ⟨hg.size, fun k hk _ _ => hg.block k hk, .inl rfl⟩
  b.put c (b.grow.trans hg) (row_grow b.row hg) ((b.opn.mono c.mem).grow hg)
theorem row_set4_3 {w : World} {B : Nat} {a b c d : Value} {t : TypeId} (h : w.heap[B]? = some (.cells #[a, b, c, d] t (0, 0))) (u : Value) : (w.setCell ⟨B, 3, none⟩ u).heap[B]? = some (.cells #[a, b, c, u] t (0, 0)) := by
  simp only [World.setCell, Array.getElem?_modify, h]; simp
theorem row_set4_1 {w : World} {B : Nat} {a b c d : Value} {t : TypeId} (h : w.heap[B]? = some (.cells #[a, b, c, d] t (0, 0))) (u : Value) : (w.setCell ⟨B, 1, none⟩ u).heap[B]? = some (.cells #[a, u, c, d] t (0, 0)) := by
  simp only [World.setCell, Array.getElem?_modify, h]; simp
/-- the open ones change: whatever an append or a deletion leaves -/
theorem KBox.opns {w w1 wr wq w' : World} {vl vo vo' : Value} {l : List Rc} {h : Hd} {os : List Opn} (b : KBox w w1 wr vl vo l h) (hG : Grow wr wq)
    (ho : OwnC Ty.opn (kmem w w1 wq vl vo) w' (w1.heap.size + 1) 136 vo' os) (hg : wq.grownBy w' vo.ownBlock) (hb : vo'.ownBlock = vo.ownBlock ∨ ∃ g, vo'.ownBlock = some g ∧ wq.heap.size ≤ g) :
    KBox w w1 (w'.setCell ⟨w1.heap.size, 3, none⟩ vo') vl vo' l { h with opn := os } := by
  have bq := b.later hG
  have hs := hG.size
  have hs1 := b.size
  have hw1 := b.w1
  have hlt := bq.opn.lt
  have hB : ∀ k, k ≠ w1.heap.size → (w'.setCell ⟨w1.heap.size, 3, none⟩ vo').heap[k]? = w'.heap[k]? := fun k hk => Below.heap_setCell _ _ _ _ (fun e => hk e)
  have c1 : KChg w1 wq (w'.setCell ⟨w1.heap.size, 3, none⟩ vo') vo vo' := ⟨by simpa using hg.size, fun k hk h1 h2 => by rw [hB k h1, hg.block k hk (fun e => h2 e.symm)], hb⟩
  have hGw : Grow w (w'.setCell ⟨w1.heap.size, 3, none⟩ vo') := (bq.grow.grown hg (fun k hk => by have := (hlt k hk).1; omega)).setCell (by simp; omega) _
  exact bq.put c1 hGw (row_set4_3 (row_by bq.row hg (fun e => by have := (hlt _ e.symm).1; omega)) _) ((ho.mono c1.mem).block fun k hk => hB k (by have := (ho.lt k hk).1; omega))
theorem KBox.boot {w w1 wr wq : World} {vl vo : Value} {l : List Rc} {h : Hd} (b : KBox w w1 wr vl vo l h) (hG : Grow wr wq) (x : Int) : KBox w w1 (wq.setCell ⟨w1.heap.size, 1, none⟩ (.int .i64 x)) vl vo l { h with boot := x } := by
  have bq := b.later hG
  have hs := hG.size
  have hs1 := b.size
  have hw1 := b.w1
  have hB : ∀ k, k ≠ w1.heap.size → (wq.setCell ⟨w1.heap.size, 1, none⟩ (.int .i64 x)).heap[k]? = wq.heap[k]? := fun k hk => Below.heap_setCell _ _ _ _ (fun e => hk e)
  have c1 : KChg w1 wq (wq.setCell ⟨w1.heap.size, 1, none⟩ (.int .i64 x)) vo vo := ⟨by simp, fun k hk h1 _ => hB k h1, .inl rfl⟩
  exact bq.put c1 (bq.grow.setCell (by simp; omega) _) (row_set4_1 bq.row _) ((bq.opn.mono c1.mem).block fun k hk => hB k (by have := (bq.opn.lt k hk).1; omega))
theorem lhead_tells (w : World) (row : Option Nat) (B : Nat) (d : Int) (l : List Opn) (hc : w.cell? ⟨B, 1, none⟩ = some (.int .i64 d)) (hB : B < w.heap.size) (hr : row ≠ some B) : TellsG Try.prog Ty.opn aggOf w row 125 #[.pointer (some ⟨B, 0, none⟩)] l (fun o => o.deed == d) where
  ent := fun args w => by kernel_rfl
  say := fun wx cs x hg _ hR => by
    obtain ⟨vp, vh, rfl, -, hp, hh⟩ := hR
    obtain ⟨ap, cp, rfl, -⟩ := hp
    obtain ⟨ah, ch, rfl, -⟩ := hh
    have hBx : B < wx.heap.size := Nat.lt_of_lt_of_le hB hg.size
    have hc2 : wx.cell? ⟨B, 1, none⟩ = some (.int .i64 d) := by rw [World.cell?_of_block (hg.block B hB (fun e => hr e.symm))]; exact hc
    clear hc
    show Calls _ _ #[.agg #[.int .i64 x.deed, .slice ap x.parts.length cp, .bool x.dec, .slice ah x.heard.length ch], .pointer (some ⟨B, 0, none⟩)] _ _
    go_enter Try.func125, Try.ntmps125
    go_wp2
    go_ret
    exact ⟨rfl, (by repeat (first | with_reducible assumption | with_reducible exact Grow.refl _ | with_reducible apply Grow.drewN | with_reducible apply Grow.drew | with_reducible apply Grow.alloc | (refine Grow.setCell ?_ (by simp; done) _)))⟩
end Go.Proofs.Ytgbhpghgohggcaa
