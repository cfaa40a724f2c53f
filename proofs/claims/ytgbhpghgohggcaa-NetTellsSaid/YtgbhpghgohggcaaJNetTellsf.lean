/- The parts that NetTells is proved of, joined: K21, Trod, Trod2, Trod3, Trod4. No condition beside those that each theorem names. -/
import Derived.Deep.DeepCutAuto
import Derived.Deep.Slices
import Derived.OpenShut
import Derived.Below
import Derived.ChangeOld
import Derived.ProofKit
import Derived.SizedLaws
import Derived.Test.YtgbhpghgohggcaaJNetTellse
/- The law NetTells, walked. -/
namespace Go.Proofs.Ytgbhpghgohggcaa
open Go.RowKit
theorem erase_parts (l : List (List UInt8)) (k : Nat) : l.take k ++ l.drop (k + 1) = l.eraseIdx k := by rw [List.eraseIdx_eq_take_drop_succ]
theorem twice_full {l : List (List UInt8)} {n : Int} (h : 0 ≤ n ∧ n < l.length) (h24 : ¬ l.length < 24) : twiceB l n = (l, 0) := by unfold twiceB; rw [if_pos h, if_neg h24]
theorem twice_more {l : List (List UInt8)} {n : Int} (h : 0 ≤ n ∧ n < l.length) (h24 : l.length < 24) : twiceB l n = (l ++ [l.getD n.toNat []], 0) := by unfold twiceB; rw [if_pos h, if_pos h24]
theorem twice_none {l : List (List UInt8)} {n : Int} (h : ¬ (0 ≤ n ∧ n < l.length)) : twiceB l n = (l, 6) := by unfold twiceB; rw [if_neg h]
set_option maxRecDepth 100000 in
set_option maxHeartbeats 4000000 in
theorem netTells_walk {v x : Value} {l : List (List UInt8)} {ms : List Ms} {n : Int} (w : World) (hv : Nts w.cell? v l) (hs : l.length * 24 ≤ 140737488351232) (hp0 : ∀ b ∈ l, b.length * 1 ≤ 140737488351232) (hm : Mss w.cell? x ms) (_hms : ms.length * 48 ≤ 140737488351232) (_hn : I64 n) :
    Calls Try.prog 14 #[v, x, .int .i64 n] w fun e w' => e = .returned (.bool true) ∧ Grow w w' := by
  have hp : ∀ b ∈ l, b.length ≤ 140737488355328 := fun b hb => by have := hp0 b hb; omega
  have HV := Lib.hid hv
  have HM := Lib.hid hm
  obtain ⟨av, cv, rfl, h1, h2, -, lel⟩ := id hv
  have LEL := Lib.hid lel
  clear lel
  obtain ⟨am, cm, rfl, m1, m2, -, mel⟩ := id hm
  unfold maxLen at h2 m2
  by_cases h100 : 100 < l.length
  · clear hv hm hp hp0 mel
    go_enter Try.func14, Try.ntmps14
    go_wp2
    go_ret
    exact ⟨rfl, (by repeat (first | with_reducible assumption | with_reducible exact Grow.refl _ | with_reducible apply Grow.drewN | with_reducible apply Grow.drew | with_reducible apply Grow.alloc | (refine Grow.setCell ?_ (by simp; done) _)))⟩
  have hc101 : l.length < 101 := by omega
  have HON := Lib.hid (fun (W : World) (hW : Grow w W) => net_own W (hv.mono hW.sub) (by omega) hp)
  have HTK := Lib.hid (fun (W : World) (hW : Grow w W) => net_take (n := n) W (hv.mono hW.sub) (by omega) hp)
  have HTW := Lib.hid (fun (W : World) (hW : Grow w W) => net_twice (n := n) W (hv.mono hW.sub) (by omega) hp)
  obtain ⟨lf, mm, er, hT⟩ : ∃ a b c, takeB l n = (a, b, c) := ⟨_, _, _, rfl⟩
  obtain ⟨ag, fr2, hT2⟩ : ∃ a b, twiceB l n = (a, b) := ⟨_, _, rfl⟩
  rw [hT] at HTK
  rw [hT2] at HTW
  have HT := Lib.hid hT
  have HT2 := Lib.hid hT2
  have HPP := Lib.hid hp
  clear hv hm hp hp0 hT hT2 hs
  go_enter Try.func14, Try.ntmps14
  go_wp2_with fail
  refine (HON.out _ (Grow.refl _)).mono ?_
  rintro e w1 ⟨v1, rfl, hown, hb⟩
  have HX1 := Lib.hid (hown.sl (by decide) (fr_sub _ _ _))
  have G1 := Lib.hid hb
  obtain ⟨a1, c1, rfl⟩ := hown.form
  clear hown hb
  go_wp2_with fail
  refine (ref_sameNet _ HX1.out (HV.out.mono G1.out.sub)).mono ?_
  rintro e w2 ⟨rfl, hb⟩
  rw [decide_eq_true rfl]
  have G2 := Lib.hid (G1.out.trans hb)
  clear hb HX1
  go_wp2_with fail
  refine (HTK.out _ G2.out).mono ?_
  rintro e w3 ⟨v3, vm3, rfl, hown, hmm, hb⟩
  obtain ⟨a3, c3, rfl⟩ := hown.form
  obtain ⟨ap, cp, rfl⟩ := hmm.ms_form
  have HX3 := Lib.hid (hown.sl (by decide) (fr_sub _ _ _))
  have HM3 := Lib.hid (hmm.mono (ov_none_sub _ _))
  have G3 := Lib.hid (G2.out.trans hb)
  clear hown hmm hb
  go_wp2_with fail
  have R8 := Lib.hid (row_new w3 (.cells #[.int .i64 mm.kind, .int .i64 mm.deed, .int .i64 mm.house, .slice ap mm.parts.length cp] 39))
  have GA := Lib.hid ((Grow.refl w3).alloc (.cells #[.int .i64 mm.kind, .int .i64 mm.deed, .int .i64 mm.house, .slice ap mm.parts.length cp] 39))
  refine (HTW.out _ (G3.out.trans GA.out)).mono ?_
  rintro e w4 ⟨v4, rfl, hown, hb⟩
  obtain ⟨a4, c4, rfl⟩ := hown.form
  have HX4 := Lib.hid (hown.sl (by decide) (fr_sub _ _ _))
  have G34 := Lib.hid (GA.out.trans hb)
  have G4 := Lib.hid (G3.out.trans G34.out)
  have R9 := Lib.hid (row_grow R8.out hb)
  have HX34 := Lib.hid (HX3.out.mono G34.out.sub)
  have HM34 := Lib.hid (HM3.out.mono G34.out.sub)
  obtain ⟨B8, hB8⟩ : ∃ B, B = w3.heap.size := ⟨_, rfl⟩
  rw [← hB8] at R9 ⊢
  clear hown hb hB8 R8 GA HX3 HM3 G34 G3 G2 G1 HON HTK HTW
  go_upto_region 7 with fail
  go_cut [44] from 45 (fun s44 wc => s44 = .bool (decide (n < 0 ∨ (l.length : Int) ≤ n)) ∧ w4 = wc)
  case first =>
    have hl0 : (0 : Int) ≤ (l.length : Int) := by omega
    by_cases hlt : n < 0
    · go_wp2
      go_meet
      case rel => exact ⟨by simp [hlt], rfl⟩
    · go_wp2
      go_meet
      case rel => exact ⟨by first | (simp; done) | (simp; intro h9; omega), rfl⟩
  case rest =>
  obtain ⟨rfl, rfl⟩ := hcut
  try go_upto_if 44 with fail
  go_cut [6, 7, 9, 10, 11] from 16 (fun s6 _ _ _ _ wc => s6 = .bool false ∧ Grow w4 wc)
  case first =>
    by_cases hin : 0 ≤ n ∧ n < l.length
    · obtain ⟨n0, n1⟩ := hin
      have hdec : decide (n < 0 ∨ (l.length : Int) ≤ n) = false := decide_eq_false (by omega)
      rw [hdec]
      have hT := HT.out
      unfold takeB at hT
      rw [if_pos ⟨n0, n1⟩] at hT
      obtain ⟨i, rfl⟩ : ∃ i : Nat, n = i := ⟨n.toNat, by omega⟩
      have hil : i < l.length := by omega
      rw [Int.toNat_natCast, List.getD_eq_getElem?_getD, List.getElem?_eq_getElem hil] at hT
      simp only [Option.getD_some, Prod.mk.injEq] at hT
      obtain ⟨rfl, hT3⟩ := hT
      obtain ⟨bb, o, u, rfl, ci, hbi⟩ := Nts.at_ LEL.out i hil
      have CI := Lib.hid ci
      have HBI := Lib.hid hbi
      replace ci := G4.out.sub _ _ ci
      have HRD := Lib.hid (fun (W : World) (hW : Grow w W) => ref_read W (hbi.mono hW.sub))
      rw [hT3] at HRD
      have HR3 := Lib.hid hT3
      clear hbi n0 n1 hT3
      obtain ⟨au, cu, rfl, -⟩ := id HBI.out
      generalize hli : l[i] = bi at *
      have HLI := Lib.hid hli
      clear hli
      go_wp2_with fail
      refine (HRD.out _ G4.out).mono ?_
      rintro e w5 ⟨v5, rfl, hx5, hb⟩
      obtain ⟨ap5, cp5, rfl⟩ := hx5.ms_form
      have HM5 := Lib.hid hx5
      have RB8 := Lib.hid (row_grow R9.out hb)
      have G45 := Lib.hid hb
      clear hx5 hb ci
      go_upto_region 11 with fail
      obtain ⟨wx, hwx⟩ : ∃ y : World, y = w5.alloc (.cells #[.int .i64 mm.kind, .int .i64 mm.deed, .int .i64 mm.house, .slice ap5 mm.parts.length cp5] 39) := ⟨_, rfl⟩
      have G5X : Hid (Grow w5 wx) := Lib.hid (by rw [hwx]; exact (Grow.refl _).alloc _)
      have RX : Hid (wx.heap[w5.heap.size]? = some (.cells #[.int .i64 mm.kind, .int .i64 mm.deed, .int .i64 mm.house, .slice ap5 mm.parts.length cp5] 39 (0, 0))) := Lib.hid (by rw [hwx]; exact row_new _ _)
      rw [← hwx]
      clear hwx
      obtain ⟨B12, hB12⟩ : ∃ B, B = w5.heap.size := ⟨_, rfl⟩
      rw [← hB12] at RX ⊢
      clear hB12
      have RX8 := Lib.hid (row_grow RB8.out G5X.out)
      have GX := Lib.hid (G45.out.trans G5X.out)
      have HM4X := Lib.hid (HM34.out.mono GX.out.sub)
      have HM5X := Lib.hid (HM5.out.mono G5X.out.sub)
      have HS : Hid (∀ W, Grow wx W → W.cell? ⟨B8, 0, none⟩ = some (.int .i64 mm.kind) ∧ W.cell? ⟨B8, 1, none⟩ = some (.int .i64 mm.deed) ∧ W.cell? ⟨B8, 2, none⟩ = some (.int .i64 mm.house) ∧ W.cell? ⟨B8, 3, none⟩ = some (.slice ap mm.parts.length cp) ∧ W.cell? ⟨B12, 0, none⟩ = some (.int .i64 mm.kind) ∧ W.cell? ⟨B12, 1, none⟩ = some (.int .i64 mm.deed) ∧ W.cell? ⟨B12, 2, none⟩ = some (.int .i64 mm.house) ∧ W.cell? ⟨B12, 3, none⟩ = some (.slice ap5 mm.parts.length cp5)) := fun W hW => by
        obtain ⟨k0, k1, k2, k3⟩ := cells4 (row_grow RX8.out hW)
        obtain ⟨j0, j1, j2, j3⟩ := cells4 (row_grow RX.out hW)
        exact ⟨k0, k1, k2, k3, j0, j1, j2, j3⟩
      have HLF := Lib.hid (erase_parts l i)
      have HLL : Hid ((l.eraseIdx i).length = l.length - 1) := Lib.hid (by rw [List.length_eraseIdx, if_pos hil])
      have hii : IntKind.i64.wrap ((i : Int) + 1) = (i : Int) + 1 := IntWalk.i64_in _ (by omega)
      have hi2 : (0 : Int) ≤ (i : Int) + 1 := by omega
      have hi3 : (i : Int) + 1 ≤ (l.length : Int) := by omega
      have hi4 : ((i : Int) + 1).toNat = i + 1 := by omega
      have hi5 : (i : Int) ≤ (cv : Int) := by omega
      have hi6 : (i : Int) < (l.length : Int) := by omega
      have hi7 : (l.length : Int) ≤ (cv : Int) := by omega
      have hTK := Lib.hid (HV.out.take' i (by omega))
      have hDR0 := Lib.hid (HV.out.drop (i + 1) (by omega))
      have hT4 : er = er := rfl
      have hF0 : fr2 = 0 := by
        have h9 := HT2.out
        by_cases h24 : l.length < 24
        · rw [twice_more ⟨by omega, by omega⟩ h24] at h9; exact (congrArg Prod.snd h9).symm
        · rw [twice_full ⟨by omega, by omega⟩ h24] at h9; exact (congrArg Prod.snd h9).symm
      subst hF0
      clear hT4
      go_cut [98] from 71 (fun s98 wc => s98 = .bool false ∧ Grow wx wc)
      case first =>
        by_cases hcap : cv = i + 1
        · have hDR : Hid (Sl Ty.bs w.cell? (.slice (some ⟨bb, o, none⟩) 0 0) (l.drop (i + 1))) := Lib.hid (Sl.none' _ _ _ (List.drop_eq_nil_of_le (by omega)))
          have hll9 : ¬ l.length = 0 := by omega
          obtain rfl := hcap
          have hi5b : (i : Int) ≤ (i : Int) + 1 := by omega
          refine but_start (fun w' => w'.cell? ⟨B8, 0, none⟩ = some (.int .i64 mm.kind) ∧ w'.cell? ⟨B8, 1, none⟩ = some (.int .i64 mm.deed) ∧ w'.cell? ⟨B8, 2, none⟩ = some (.int .i64 mm.house) ∧ w'.cell? ⟨B8, 3, none⟩ = some (.slice ap mm.parts.length cp) ∧ w'.cell? ⟨B12, 0, none⟩ = some (.int .i64 mm.kind) ∧ w'.cell? ⟨B12, 1, none⟩ = some (.int .i64 mm.deed) ∧ w'.cell? ⟨B12, 2, none⟩ = some (.int .i64 mm.house) ∧ w'.cell? ⟨B12, 3, none⟩ = some (.slice ap5 mm.parts.length cp5)) 27 (by kernel_rfl) ?_
          obtain ⟨wd, hWd⟩ : ∃ x : World, x = wx.drew := ⟨_, rfl⟩
          rw [← hWd]
          have GD : Grow wx wd := by rw [hWd]; exact (Grow.refl _).drew
          have zD : wx.heap.size = wd.heap.size := by rw [hWd]; rfl
          have ZD := Lib.hid zD
          clear hWd zD
          refine but_take (i := 0) (v := ?_) 30 rfl (by kernel_rfl) (by kernel_rfl) (by kernel_rfl) (by kernel_rfl) (by kernel_rfl) (fun _ _ _ h => h) (HS.out _ GD) (Or.inl ⟨by rfl, ?_⟩) ?_
          rotate_left
          · (intro w' hSw; (try dsimp only at hSw); obtain ⟨hs0, hs1, hs2, hs3, hs4, hs5, hs6, hs7⟩ := hSw; go_simp <;> with_reducible rfl)
          try simp only [Act.put, List.getElem_toArray, List.getElem_cons_zero, List.setIfInBounds_toArray, List.set_cons_zero, List.set_cons_succ]
          refine but_take (i := 1) (v := ?_) 30 rfl (by kernel_rfl) (by kernel_rfl) (by kernel_rfl) (by kernel_rfl) (by kernel_rfl) (fun _ _ _ h => h) (HS.out _ GD) (Or.inl ⟨by rfl, ?_⟩) ?_
          rotate_left
          · (intro w' hSw; (try dsimp only at hSw); obtain ⟨hs0, hs1, hs2, hs3, hs4, hs5, hs6, hs7⟩ := hSw; go_simp <;> with_reducible rfl)
          try simp only [Act.put, List.getElem_toArray, List.getElem_cons_succ, List.getElem_cons_zero, List.setIfInBounds_toArray, List.set_cons_zero, List.set_cons_succ]
          refine but_take (i := 2) (v := ?_) 30 rfl (by kernel_rfl) (by kernel_rfl) (by kernel_rfl) (by kernel_rfl) (by kernel_rfl) (fun _ _ _ h => h) (HS.out _ GD) (Or.inl ⟨by rfl, ?_⟩) ?_
          rotate_left
          · (intro w' hSw; (try dsimp only at hSw); obtain ⟨hs0, hs1, hs2, hs3, hs4, hs5, hs6, hs7⟩ := hSw; go_simp <;> with_reducible rfl)
          try simp only [Act.put, List.getElem_toArray, List.getElem_cons_succ, List.getElem_cons_zero, List.setIfInBounds_toArray, List.set_cons_zero, List.set_cons_succ]
          refine but_take (i := 3) (v := ?_) 30 rfl (by kernel_rfl) (by kernel_rfl) (by kernel_rfl) (by kernel_rfl) (by kernel_rfl) (fun _ _ _ h => h) (HS.out _ GD) (Or.inl ⟨by rfl, ?_⟩) ?_
          rotate_left
          · (intro w' hSw; (try dsimp only at hSw); obtain ⟨hs0, hs1, hs2, hs3, hs4, hs5, hs6, hs7⟩ := hSw; go_simp <;> with_reducible rfl)
          try simp only [Act.put, List.getElem_toArray, List.getElem_cons_succ, List.getElem_cons_zero, List.setIfInBounds_toArray, List.set_cons_zero, List.set_cons_succ]
          refine but_take (i := 4) (v := ?_) 30 rfl (by kernel_rfl) (by kernel_rfl) (by kernel_rfl) (by kernel_rfl) (by kernel_rfl) (fun _ _ _ h => h) (HS.out _ GD) (Or.inl ⟨by rfl, ?_⟩) ?_
          rotate_left
          · (intro w' hSw; (try dsimp only at hSw); obtain ⟨hs0, hs1, hs2, hs3, hs4, hs5, hs6, hs7⟩ := hSw; go_simp <;> with_reducible rfl)
          try simp only [Act.put, List.getElem_toArray, List.getElem_cons_succ, List.getElem_cons_zero, List.setIfInBounds_toArray, List.set_cons_zero, List.set_cons_succ]
          refine but_take (i := 5) (v := ?_) 30 rfl (by kernel_rfl) (by kernel_rfl) (by kernel_rfl) (by kernel_rfl) (by kernel_rfl) (fun _ _ _ h => h) (HS.out _ GD) (Or.inl ⟨by rfl, ?_⟩) ?_
          rotate_left
          · (intro w' hSw; (try dsimp only at hSw); obtain ⟨hs0, hs1, hs2, hs3, hs4, hs5, hs6, hs7⟩ := hSw; go_simp <;> with_reducible rfl)
          try simp only [Act.put, List.getElem_toArray, List.getElem_cons_succ, List.getElem_cons_zero, List.setIfInBounds_toArray, List.set_cons_zero, List.set_cons_succ]
          refine but_one (i := 6) (by kernel_rfl) rfl ?_
          intro K HK'
          have HK := Lib.hid HK'
          clear HK'
          refine wanted_yes (by rfl) ?_
          try simp only [List.getElem_toArray, List.getElem_cons_succ, List.getElem_cons_zero]
          go_simp
          go_at_call 61
          refine (ref_sameMsg _ (HM4X.out.mono (GD).sub) (HM5X.out.mono (GD).sub)).mono ?_
          rw [decide_eq_true rfl]
          rintro e6 w6 ⟨rfl, hb6⟩
          have G6 := Grow.trans GD hb6
          have HG6 := Lib.hid G6
          clear hb6
          refine HK.out _ _ ⟨fun _ => HS.out _ HG6.out, ?_⟩
          clear HK K
          try simp only [Act.put, List.getElem_toArray, List.getElem_cons_succ, List.getElem_cons_zero, List.setIfInBounds_toArray, List.set_cons_zero, List.set_cons_succ]
          refine but_take (i := 7) (v := ?_) 30 rfl (by kernel_rfl) (by kernel_rfl) (by kernel_rfl) (by kernel_rfl) (by kernel_rfl) (fun _ _ _ h => h) (HS.out _ HG6.out) (Or.inl ⟨by rfl, ?_⟩) ?_
          rotate_left
          · (intro w' hSw; (try dsimp only at hSw); obtain ⟨hs0, hs1, hs2, hs3, hs4, hs5, hs6, hs7⟩ := hSw; go_simp <;> with_reducible rfl)
          try simp only [Act.put, List.getElem_toArray, List.getElem_cons_succ, List.getElem_cons_zero, List.setIfInBounds_toArray, List.set_cons_zero, List.set_cons_succ]
          refine but_take (i := 8) (v := ?_) 30 rfl (by kernel_rfl) (by kernel_rfl) (by kernel_rfl) (by kernel_rfl) (by kernel_rfl) (fun _ _ _ h => h) (HS.out _ HG6.out) (Or.inl ⟨by rfl, ?_⟩) ?_
          rotate_left
          · (intro w' hSw; (try dsimp only at hSw); obtain ⟨hs0, hs1, hs2, hs3, hs4, hs5, hs6, hs7⟩ := hSw; go_simp <;> with_reducible rfl)
          try simp only [Act.put, List.getElem_toArray, List.getElem_cons_succ, List.getElem_cons_zero, List.setIfInBounds_toArray, List.set_cons_zero, List.set_cons_succ]
          refine but_take (i := 9) (v := ?_) 30 rfl (by kernel_rfl) (by kernel_rfl) (by kernel_rfl) (by kernel_rfl) (by kernel_rfl) (fun _ _ _ h => h) (HS.out _ HG6.out) (Or.inl ⟨by rfl, ?_⟩) ?_
          rotate_left
          · (intro w' hSw; (try dsimp only at hSw); obtain ⟨hs0, hs1, hs2, hs3, hs4, hs5, hs6, hs7⟩ := hSw; go_simp <;> with_reducible rfl)
          try simp only [Act.put, List.getElem_toArray, List.getElem_cons_succ, List.getElem_cons_zero, List.setIfInBounds_toArray, List.set_cons_zero, List.set_cons_succ]
          refine but_take (i := 10) (v := ?_) 30 rfl (by kernel_rfl) (by kernel_rfl) (by kernel_rfl) (by kernel_rfl) (by kernel_rfl) (fun _ _ _ h => h) (HS.out _ HG6.out) (Or.inl ⟨by rfl, ?_⟩) ?_
          rotate_left
          · (intro w' hSw; (try dsimp only at hSw); obtain ⟨hs0, hs1, hs2, hs3, hs4, hs5, hs6, hs7⟩ := hSw; go_simp <;> with_reducible rfl)
          try simp only [Act.put, List.getElem_toArray, List.getElem_cons_succ, List.getElem_cons_zero, List.setIfInBounds_toArray, List.set_cons_zero, List.set_cons_succ]
          refine but_take (i := 11) (v := ?_) 30 rfl (by kernel_rfl) (by kernel_rfl) (by kernel_rfl) (by kernel_rfl) (by kernel_rfl) (fun _ _ _ h => h) (HS.out _ HG6.out) (Or.inl ⟨by rfl, ?_⟩) ?_
          rotate_left
          · (intro w' hSw; (try dsimp only at hSw); obtain ⟨hs0, hs1, hs2, hs3, hs4, hs5, hs6, hs7⟩ := hSw; go_simp <;> with_reducible rfl)
          try simp only [Act.put, List.getElem_toArray, List.getElem_cons_succ, List.getElem_cons_zero, List.setIfInBounds_toArray, List.set_cons_zero, List.set_cons_succ]
          refine but_take (i := 12) (v := ?_) 30 rfl (by kernel_rfl) (by kernel_rfl) (by kernel_rfl) (by kernel_rfl) (by kernel_rfl) (fun _ _ _ h => h) (HS.out _ HG6.out) (Or.inl ⟨by rfl, ?_⟩) ?_
          rotate_left
          · (intro w' hSw; (try dsimp only at hSw); obtain ⟨hs0, hs1, hs2, hs3, hs4, hs5, hs6, hs7⟩ := hSw; go_simp <;> with_reducible rfl)
          try simp only [Act.put, List.getElem_toArray, List.getElem_cons_succ, List.getElem_cons_zero, List.setIfInBounds_toArray, List.set_cons_zero, List.set_cons_succ]
          refine but_take (i := 13) (v := ?_) 30 rfl (by kernel_rfl) (by kernel_rfl) (by kernel_rfl) (by kernel_rfl) (by kernel_rfl) (fun _ _ _ h => h) (HS.out _ HG6.out) (Or.inl ⟨by rfl, ?_⟩) ?_
          rotate_left
          · (intro w' hSw; (try dsimp only at hSw); obtain ⟨hs0, hs1, hs2, hs3, hs4, hs5, hs6, hs7⟩ := hSw; go_simp <;> with_reducible rfl)
          try simp only [Act.put, List.getElem_toArray, List.getElem_cons_succ, List.getElem_cons_zero, List.setIfInBounds_toArray, List.set_cons_zero, List.set_cons_succ]
          refine but_take (i := 14) (v := ?_) 30 rfl (by kernel_rfl) (by kernel_rfl) (by kernel_rfl) (by kernel_rfl) (by kernel_rfl) (fun _ _ _ h => h) (HS.out _ HG6.out) (Or.inl ⟨by rfl, ?_⟩) ?_
          rotate_left
          · (intro w' hSw; (try dsimp only at hSw); obtain ⟨hs0, hs1, hs2, hs3, hs4, hs5, hs6, hs7⟩ := hSw; go_simp <;> with_reducible rfl)
          try simp only [Act.put, List.getElem_toArray, List.getElem_cons_succ, List.getElem_cons_zero, List.setIfInBounds_toArray, List.set_cons_zero, List.set_cons_succ]
          refine but_take (i := 16) (v := ?_) 30 rfl (by kernel_rfl) (by kernel_rfl) (by kernel_rfl) (by kernel_rfl) (by kernel_rfl) (fun _ _ _ h => h) (HS.out _ HG6.out) (Or.inl ⟨by rfl, ?_⟩) ?_
          rotate_left
          · (intro w' hSw; (try dsimp only at hSw); obtain ⟨hs0, hs1, hs2, hs3, hs4, hs5, hs6, hs7⟩ := hSw; go_simp <;> with_reducible rfl)
          try simp only [Act.put, List.getElem_toArray, List.getElem_cons_succ, List.getElem_cons_zero, List.setIfInBounds_toArray, List.set_cons_zero, List.set_cons_succ]
          refine but_take (i := 17) (v := ?_) 30 rfl (by kernel_rfl) (by kernel_rfl) (by kernel_rfl) (by kernel_rfl) (by kernel_rfl) (fun _ _ _ h => h) (HS.out _ HG6.out) (Or.inl ⟨by rfl, ?_⟩) ?_
          rotate_left
          · (intro w' hSw; (try dsimp only at hSw); obtain ⟨hs0, hs1, hs2, hs3, hs4, hs5, hs6, hs7⟩ := hSw; go_simp <;> with_reducible rfl)
          try simp only [Act.put, List.getElem_toArray, List.getElem_cons_succ, List.getElem_cons_zero, List.setIfInBounds_toArray, List.set_cons_zero, List.set_cons_succ]
          refine but_take (i := 18) (v := ?_) 30 rfl (by kernel_rfl) (by kernel_rfl) (by kernel_rfl) (by kernel_rfl) (by kernel_rfl) (fun _ _ _ h => h) (HS.out _ HG6.out) (Or.inl ⟨by rfl, ?_⟩) ?_
          rotate_left
          · (intro w' hSw; (try dsimp only at hSw); obtain ⟨hs0, hs1, hs2, hs3, hs4, hs5, hs6, hs7⟩ := hSw; go_simp <;> with_reducible rfl)
          try simp only [Act.put, List.getElem_toArray, List.getElem_cons_succ, List.getElem_cons_zero, List.setIfInBounds_toArray, List.set_cons_zero, List.set_cons_succ]
          refine but_take (i := 20) (v := ?_) 30 rfl (by kernel_rfl) (by kernel_rfl) (by kernel_rfl) (by kernel_rfl) (by kernel_rfl) (fun _ _ _ h => h) (HS.out _ HG6.out) (Or.inl ⟨by rfl, ?_⟩) ?_
          rotate_left
          · (intro w' hSw; (try dsimp only at hSw); obtain ⟨hs0, hs1, hs2, hs3, hs4, hs5, hs6, hs7⟩ := hSw; go_simp <;> with_reducible rfl)
          try simp only [Act.put, List.getElem_toArray, List.getElem_cons_succ, List.getElem_cons_zero, List.setIfInBounds_toArray, List.set_cons_zero, List.set_cons_succ]
          refine but_take (i := 21) (v := ?_) 30 rfl (by kernel_rfl) (by kernel_rfl) (by kernel_rfl) (by kernel_rfl) (by kernel_rfl) (fun _ _ _ h => h) (HS.out _ HG6.out) (Or.inl ⟨by rfl, ?_⟩) ?_
          rotate_left
          · (intro w' hSw; (try dsimp only at hSw); obtain ⟨hs0, hs1, hs2, hs3, hs4, hs5, hs6, hs7⟩ := hSw; go_simp <;> with_reducible rfl)
          try simp only [Act.put, List.getElem_toArray, List.getElem_cons_succ, List.getElem_cons_zero, List.setIfInBounds_toArray, List.set_cons_zero, List.set_cons_succ]
          refine but_take (i := 22) (v := ?_) 30 rfl (by kernel_rfl) (by kernel_rfl) (by kernel_rfl) (by kernel_rfl) (by kernel_rfl) (fun _ _ _ h => h) (HS.out _ HG6.out) (Or.inl ⟨by rfl, ?_⟩) ?_
          rotate_left
          · (intro w' hSw; (try dsimp only at hSw); obtain ⟨hs0, hs1, hs2, hs3, hs4, hs5, hs6, hs7⟩ := hSw; go_simp <;> with_reducible rfl)
          try simp only [Act.put, List.getElem_toArray, List.getElem_cons_succ, List.getElem_cons_zero, List.setIfInBounds_toArray, List.set_cons_zero, List.set_cons_succ]
          refine but_take (i := 23) (v := ?_) 30 rfl (by kernel_rfl) (by kernel_rfl) (by kernel_rfl) (by kernel_rfl) (by kernel_rfl) (fun _ _ _ h => h) (HS.out _ HG6.out) (Or.inl ⟨by rfl, ?_⟩) ?_
          rotate_left
          · (intro w' hSw; (try dsimp only at hSw); obtain ⟨hs0, hs1, hs2, hs3, hs4, hs5, hs6, hs7⟩ := hSw; go_simp <;> with_reducible rfl)
          try simp only [Act.put, List.getElem_toArray, List.getElem_cons_succ, List.getElem_cons_zero, List.setIfInBounds_toArray, List.set_cons_zero, List.set_cons_succ]
          refine but_one (i := 15) (by kernel_rfl) rfl ?_
          intro K HK'
          have HK := Lib.hid HK'
          clear HK'
          refine wanted_yes (by rfl) ?_
          try simp only [List.getElem_toArray, List.getElem_cons_succ, List.getElem_cons_zero]
          go_simp
          obtain ⟨w7, hw7⟩ : ∃ y : World, y = w6.alloc (.cells #[] 69) := ⟨_, rfl⟩
          have HO7 : Hid (OwnC Ty.bs w.cell? w7 w6.heap.size 69 (.slice (some ⟨w6.heap.size, 0, none⟩) 0 0) []) := Lib.hid (by rw [hw7]; exact OwnC.made0 Ty.bs _ _ _ _ (Nat.le_refl _) rfl)
          have G7 : Hid (Grow w6 w7) := Lib.hid (by rw [hw7]; exact (Grow.refl _).alloc _)
          have HG7 := Lib.hid (HG6.out.trans G7.out)
          rw [← hw7]
          clear hw7
          refine HK.out _ _ ⟨fun _ => HS.out _ HG7.out, ?_⟩
          clear HK K
          try simp only [Act.put, List.getElem_toArray, List.getElem_cons_succ, List.getElem_cons_zero, List.setIfInBounds_toArray, List.set_cons_zero, List.set_cons_succ]
          refine but_one (i := 19) (by kernel_rfl) rfl ?_
          intro K HK'
          have HK := Lib.hid HK'
          clear HK'
          refine wanted_yes (by rfl) ?_
          try simp only [List.getElem_toArray, List.getElem_cons_succ, List.getElem_cons_zero]
          refine wp_appc (c := w.cell?) (base := w6.heap.size) (l := []) (m := l.take i) (v := .slice (some ⟨w6.heap.size, 0, none⟩) 0 0) ei_bts rfl (one_Tsl Ty.byte) (by decide) (.tmp 86) (.tmp 89) rfl rfl HO7.out rfl (Src.of_sl_c (by decide) (G4.out.trans (GX.out.trans HG7.out)).sub hTK.out) (by rw [List.length_take]; simp; omega) G7.out.size ?_
          intro a8 c8 w8 ho8 hg8 hb8
          try simp only [List.length_nil, Nat.zero_add, List.nil_append] at ho8
          try simp only [List.length_nil, Nat.zero_add]
          have HO8 := Lib.hid ho8
          have G8 := Lib.hid (grow_by (w0 := w6) G7.out hg8 (fun q hq => (HO7.out.lt q hq).1))
          have HG8 := Lib.hid (HG6.out.trans G8.out)
          clear ho8 hg8 hb8
          refine HK.out _ _ ⟨fun _ => HS.out _ HG8.out, ?_⟩
          clear HK K
          try simp only [Act.put, List.setIfInBounds_toArray, List.set_cons_zero, List.set_cons_succ]
          refine but_one (i := 24) (by kernel_rfl) rfl ?_
          intro K HK'
          have HK := Lib.hid HK'
          clear HK'
          refine wanted_yes (by rfl) ?_
          try simp only [List.getElem_toArray, List.getElem_cons_succ, List.getElem_cons_zero]
          refine wp_appc (c := w.cell?) (base := w6.heap.size) (l := l.take i) (m := l.drop (i + 1)) (v := .slice a8 (l.take i).length c8) ei_bts rfl (one_Tsl Ty.byte) (by decide) (.tmp 90) (.tmp 94) rfl rfl HO8.out rfl (Src.of_sl_c (by decide) (G4.out.trans (GX.out.trans HG8.out)).sub ?srcd) (by rw [List.length_take, List.length_drop]; omega) G8.out.size ?_
          case srcd => exact hDR.out
          intro a9 c9 w9 ho9 hg9 hb9
          rw [HLF.out] at ho9
          have HO9 := Lib.hid (ho9.sl (by decide) (G4.out.trans (GX.out.trans (HG6.out.trans (grow_by (w0 := w6) G8.out hg9 (fun q hq => (HO8.out.lt q hq).1))))).sub)
          have HG9 := Lib.hid (HG6.out.trans (grow_by (w0 := w6) G8.out hg9 (fun q hq => (HO8.out.lt q hq).1)))
          clear ho9 hg9 hb9
          refine HK.out _ _ ⟨fun _ => HS.out _ HG9.out, ?_⟩
          clear HK K
          try simp only [Act.put, List.setIfInBounds_toArray, List.set_cons_zero, List.set_cons_succ]
          refine but_one (i := 25) (by kernel_rfl) rfl ?_
          intro K HK'
          have HK := Lib.hid HK'
          clear HK'
          refine wanted_yes (by rfl) ?_
          try simp only [List.getElem_toArray, List.getElem_cons_succ, List.getElem_cons_zero]
          go_simp
          go_at_call 64
          refine (ref_sameNet (l' := l.eraseIdx i) _ (HX34.out.mono (GX.out.trans HG9.out).sub) ?nts).mono ?_
          case nts => first | exact HO9.out | (have h9 := HO9.out; rw [show (l.take i).length + (l.drop (i + 1)).length = min i l.length by rw [List.length_take, List.length_drop]; omega] at h9; exact h9) | (have h9 := HO9.out; simpa using h9)
          rw [decide_eq_true rfl]
          rintro e10 w10 ⟨rfl, hb10⟩
          have HG10 := Lib.hid (Grow.trans HG9.out hb10)
          clear hb10
          refine HK.out _ _ ⟨fun _ => HS.out _ HG10.out, ?_⟩
          clear HK K
          try simp only [Act.put, List.getElem_toArray, List.getElem_cons_succ, List.getElem_cons_zero, List.setIfInBounds_toArray, List.set_cons_zero, List.set_cons_succ]
          refine but_take (i := 26) (v := ?_) 30 rfl (by kernel_rfl) (by kernel_rfl) (by kernel_rfl) (by kernel_rfl) (by kernel_rfl) (fun _ _ _ h => h) (HS.out _ HG10.out) (Or.inl ⟨by rfl, ?_⟩) ?_
          rotate_left
          · (intro w' hSw; (try dsimp only at hSw); obtain ⟨hs0, hs1, hs2, hs3, hs4, hs5, hs6, hs7⟩ := hSw; go_simp <;> with_reducible rfl)
          try simp only [Act.put, List.getElem_toArray, List.getElem_cons_succ, List.getElem_cons_zero, List.setIfInBounds_toArray, List.set_cons_zero, List.set_cons_succ]
          refine but_one (i := 27) (by kernel_rfl) rfl ?_
          intro K HK'
          have HK := Lib.hid HK'
          clear HK'
          skip
          try simp only [List.getElem_toArray, List.getElem_cons_succ, List.getElem_cons_zero]
          go_simp
          refine HK.out _ _ ⟨fun h => absurd rfl h, ?_⟩
          clear HK K
          try simp only [Act.put, List.getElem_toArray, List.getElem_cons_succ, List.getElem_cons_zero, List.setIfInBounds_toArray, List.set_cons_zero, List.set_cons_succ]
          refine but_done (by kernel_rfl) ?_
          go_wp2
          go_meet
          case rel => exact ⟨rfl, HG10.out⟩
        · have hDR : Hid (Sl Ty.bs w.cell? (.slice (some ⟨bb, o + (i + 1), none⟩) (l.length - (i + 1)) (cv - (i + 1))) (l.drop (i + 1))) := Lib.hid (by simpa [show Ty.bs.size = 1 from rfl] using hDR0.out)
          refine but_start (fun w' => w'.cell? ⟨B8, 0, none⟩ = some (.int .i64 mm.kind) ∧ w'.cell? ⟨B8, 1, none⟩ = some (.int .i64 mm.deed) ∧ w'.cell? ⟨B8, 2, none⟩ = some (.int .i64 mm.house) ∧ w'.cell? ⟨B8, 3, none⟩ = some (.slice ap mm.parts.length cp) ∧ w'.cell? ⟨B12, 0, none⟩ = some (.int .i64 mm.kind) ∧ w'.cell? ⟨B12, 1, none⟩ = some (.int .i64 mm.deed) ∧ w'.cell? ⟨B12, 2, none⟩ = some (.int .i64 mm.house) ∧ w'.cell? ⟨B12, 3, none⟩ = some (.slice ap5 mm.parts.length cp5)) 27 (by kernel_rfl) ?_
          obtain ⟨wd, hWd⟩ : ∃ x : World, x = wx.drew := ⟨_, rfl⟩
          rw [← hWd]
          have GD : Grow wx wd := by rw [hWd]; exact (Grow.refl _).drew
          have zD : wx.heap.size = wd.heap.size := by rw [hWd]; rfl
          have ZD := Lib.hid zD
          clear hWd zD
          refine but_take (i := 0) (v := ?_) 30 rfl (by kernel_rfl) (by kernel_rfl) (by kernel_rfl) (by kernel_rfl) (by kernel_rfl) (fun _ _ _ h => h) (HS.out _ GD) (Or.inl ⟨by rfl, ?_⟩) ?_
          rotate_left
          · (intro w' hSw; (try dsimp only at hSw); obtain ⟨hs0, hs1, hs2, hs3, hs4, hs5, hs6, hs7⟩ := hSw; go_simp <;> with_reducible rfl)
          try simp only [Act.put, List.getElem_toArray, List.getElem_cons_zero, List.setIfInBounds_toArray, List.set_cons_zero, List.set_cons_succ]
          refine but_take (i := 1) (v := ?_) 30 rfl (by kernel_rfl) (by kernel_rfl) (by kernel_rfl) (by kernel_rfl) (by kernel_rfl) (fun _ _ _ h => h) (HS.out _ GD) (Or.inl ⟨by rfl, ?_⟩) ?_
          rotate_left
          · (intro w' hSw; (try dsimp only at hSw); obtain ⟨hs0, hs1, hs2, hs3, hs4, hs5, hs6, hs7⟩ := hSw; go_simp <;> with_reducible rfl)
          try simp only [Act.put, List.getElem_toArray, List.getElem_cons_succ, List.getElem_cons_zero, List.setIfInBounds_toArray, List.set_cons_zero, List.set_cons_succ]
          refine but_take (i := 2) (v := ?_) 30 rfl (by kernel_rfl) (by kernel_rfl) (by kernel_rfl) (by kernel_rfl) (by kernel_rfl) (fun _ _ _ h => h) (HS.out _ GD) (Or.inl ⟨by rfl, ?_⟩) ?_
          rotate_left
          · (intro w' hSw; (try dsimp only at hSw); obtain ⟨hs0, hs1, hs2, hs3, hs4, hs5, hs6, hs7⟩ := hSw; go_simp <;> with_reducible rfl)
          try simp only [Act.put, List.getElem_toArray, List.getElem_cons_succ, List.getElem_cons_zero, List.setIfInBounds_toArray, List.set_cons_zero, List.set_cons_succ]
          refine but_take (i := 3) (v := ?_) 30 rfl (by kernel_rfl) (by kernel_rfl) (by kernel_rfl) (by kernel_rfl) (by kernel_rfl) (fun _ _ _ h => h) (HS.out _ GD) (Or.inl ⟨by rfl, ?_⟩) ?_
          rotate_left
          · (intro w' hSw; (try dsimp only at hSw); obtain ⟨hs0, hs1, hs2, hs3, hs4, hs5, hs6, hs7⟩ := hSw; go_simp <;> with_reducible rfl)
          try simp only [Act.put, List.getElem_toArray, List.getElem_cons_succ, List.getElem_cons_zero, List.setIfInBounds_toArray, List.set_cons_zero, List.set_cons_succ]
          refine but_take (i := 4) (v := ?_) 30 rfl (by kernel_rfl) (by kernel_rfl) (by kernel_rfl) (by kernel_rfl) (by kernel_rfl) (fun _ _ _ h => h) (HS.out _ GD) (Or.inl ⟨by rfl, ?_⟩) ?_
          rotate_left
          · (intro w' hSw; (try dsimp only at hSw); obtain ⟨hs0, hs1, hs2, hs3, hs4, hs5, hs6, hs7⟩ := hSw; go_simp <;> with_reducible rfl)
          try simp only [Act.put, List.getElem_toArray, List.getElem_cons_succ, List.getElem_cons_zero, List.setIfInBounds_toArray, List.set_cons_zero, List.set_cons_succ]
          refine but_take (i := 5) (v := ?_) 30 rfl (by kernel_rfl) (by kernel_rfl) (by kernel_rfl) (by kernel_rfl) (by kernel_rfl) (fun _ _ _ h => h) (HS.out _ GD) (Or.inl ⟨by rfl, ?_⟩) ?_
          rotate_left
          · (intro w' hSw; (try dsimp only at hSw); obtain ⟨hs0, hs1, hs2, hs3, hs4, hs5, hs6, hs7⟩ := hSw; go_simp <;> with_reducible rfl)
          try simp only [Act.put, List.getElem_toArray, List.getElem_cons_succ, List.getElem_cons_zero, List.setIfInBounds_toArray, List.set_cons_zero, List.set_cons_succ]
          refine but_one (i := 6) (by kernel_rfl) rfl ?_
          intro K HK'
          have HK := Lib.hid HK'
          clear HK'
          refine wanted_yes (by rfl) ?_
          try simp only [List.getElem_toArray, List.getElem_cons_succ, List.getElem_cons_zero]
          go_simp
          go_at_call 61
          refine (ref_sameMsg _ (HM4X.out.mono (GD).sub) (HM5X.out.mono (GD).sub)).mono ?_
          rw [decide_eq_true rfl]
          rintro e6 w6 ⟨rfl, hb6⟩
          have G6 := Grow.trans GD hb6
          have HG6 := Lib.hid G6
          clear hb6
          refine HK.out _ _ ⟨fun _ => HS.out _ HG6.out, ?_⟩
          clear HK K
          try simp only [Act.put, List.getElem_toArray, List.getElem_cons_succ, List.getElem_cons_zero, List.setIfInBounds_toArray, List.set_cons_zero, List.set_cons_succ]
          refine but_take (i := 7) (v := ?_) 30 rfl (by kernel_rfl) (by kernel_rfl) (by kernel_rfl) (by kernel_rfl) (by kernel_rfl) (fun _ _ _ h => h) (HS.out _ HG6.out) (Or.inl ⟨by rfl, ?_⟩) ?_
          rotate_left
          · (intro w' hSw; (try dsimp only at hSw); obtain ⟨hs0, hs1, hs2, hs3, hs4, hs5, hs6, hs7⟩ := hSw; go_simp <;> with_reducible rfl)
          try simp only [Act.put, List.getElem_toArray, List.getElem_cons_succ, List.getElem_cons_zero, List.setIfInBounds_toArray, List.set_cons_zero, List.set_cons_succ]
          refine but_take (i := 8) (v := ?_) 30 rfl (by kernel_rfl) (by kernel_rfl) (by kernel_rfl) (by kernel_rfl) (by kernel_rfl) (fun _ _ _ h => h) (HS.out _ HG6.out) (Or.inl ⟨by rfl, ?_⟩) ?_
          rotate_left
          · (intro w' hSw; (try dsimp only at hSw); obtain ⟨hs0, hs1, hs2, hs3, hs4, hs5, hs6, hs7⟩ := hSw; go_simp <;> with_reducible rfl)
          try simp only [Act.put, List.getElem_toArray, List.getElem_cons_succ, List.getElem_cons_zero, List.setIfInBounds_toArray, List.set_cons_zero, List.set_cons_succ]
          refine but_take (i := 9) (v := ?_) 30 rfl (by kernel_rfl) (by kernel_rfl) (by kernel_rfl) (by kernel_rfl) (by kernel_rfl) (fun _ _ _ h => h) (HS.out _ HG6.out) (Or.inl ⟨by rfl, ?_⟩) ?_
          rotate_left
          · (intro w' hSw; (try dsimp only at hSw); obtain ⟨hs0, hs1, hs2, hs3, hs4, hs5, hs6, hs7⟩ := hSw; go_simp <;> with_reducible rfl)
          try simp only [Act.put, List.getElem_toArray, List.getElem_cons_succ, List.getElem_cons_zero, List.setIfInBounds_toArray, List.set_cons_zero, List.set_cons_succ]
          refine but_take (i := 10) (v := ?_) 30 rfl (by kernel_rfl) (by kernel_rfl) (by kernel_rfl) (by kernel_rfl) (by kernel_rfl) (fun _ _ _ h => h) (HS.out _ HG6.out) (Or.inl ⟨by rfl, ?_⟩) ?_
          rotate_left
          · (intro w' hSw; (try dsimp only at hSw); obtain ⟨hs0, hs1, hs2, hs3, hs4, hs5, hs6, hs7⟩ := hSw; go_simp <;> with_reducible rfl)
          try simp only [Act.put, List.getElem_toArray, List.getElem_cons_succ, List.getElem_cons_zero, List.setIfInBounds_toArray, List.set_cons_zero, List.set_cons_succ]
          refine but_take (i := 11) (v := ?_) 30 rfl (by kernel_rfl) (by kernel_rfl) (by kernel_rfl) (by kernel_rfl) (by kernel_rfl) (fun _ _ _ h => h) (HS.out _ HG6.out) (Or.inl ⟨by rfl, ?_⟩) ?_
          rotate_left
          · (intro w' hSw; (try dsimp only at hSw); obtain ⟨hs0, hs1, hs2, hs3, hs4, hs5, hs6, hs7⟩ := hSw; go_simp <;> with_reducible rfl)
          try simp only [Act.put, List.getElem_toArray, List.getElem_cons_succ, List.getElem_cons_zero, List.setIfInBounds_toArray, List.set_cons_zero, List.set_cons_succ]
          refine but_take (i := 12) (v := ?_) 30 rfl (by kernel_rfl) (by kernel_rfl) (by kernel_rfl) (by kernel_rfl) (by kernel_rfl) (fun _ _ _ h => h) (HS.out _ HG6.out) (Or.inl ⟨by rfl, ?_⟩) ?_
          rotate_left
          · (intro w' hSw; (try dsimp only at hSw); obtain ⟨hs0, hs1, hs2, hs3, hs4, hs5, hs6, hs7⟩ := hSw; go_simp <;> with_reducible rfl)
          try simp only [Act.put, List.getElem_toArray, List.getElem_cons_succ, List.getElem_cons_zero, List.setIfInBounds_toArray, List.set_cons_zero, List.set_cons_succ]
          refine but_take (i := 13) (v := ?_) 30 rfl (by kernel_rfl) (by kernel_rfl) (by kernel_rfl) (by kernel_rfl) (by kernel_rfl) (fun _ _ _ h => h) (HS.out _ HG6.out) (Or.inl ⟨by rfl, ?_⟩) ?_
          rotate_left
          · (intro w' hSw; (try dsimp only at hSw); obtain ⟨hs0, hs1, hs2, hs3, hs4, hs5, hs6, hs7⟩ := hSw; go_simp <;> with_reducible rfl)
          try simp only [Act.put, List.getElem_toArray, List.getElem_cons_succ, List.getElem_cons_zero, List.setIfInBounds_toArray, List.set_cons_zero, List.set_cons_succ]
          refine but_take (i := 14) (v := ?_) 30 rfl (by kernel_rfl) (by kernel_rfl) (by kernel_rfl) (by kernel_rfl) (by kernel_rfl) (fun _ _ _ h => h) (HS.out _ HG6.out) (Or.inl ⟨by rfl, ?_⟩) ?_
          rotate_left
          · (intro w' hSw; (try dsimp only at hSw); obtain ⟨hs0, hs1, hs2, hs3, hs4, hs5, hs6, hs7⟩ := hSw; go_simp <;> with_reducible rfl)
          try simp only [Act.put, List.getElem_toArray, List.getElem_cons_succ, List.getElem_cons_zero, List.setIfInBounds_toArray, List.set_cons_zero, List.set_cons_succ]
          refine but_take (i := 16) (v := ?_) 30 rfl (by kernel_rfl) (by kernel_rfl) (by kernel_rfl) (by kernel_rfl) (by kernel_rfl) (fun _ _ _ h => h) (HS.out _ HG6.out) (Or.inl ⟨by rfl, ?_⟩) ?_
          rotate_left
          · (intro w' hSw; (try dsimp only at hSw); obtain ⟨hs0, hs1, hs2, hs3, hs4, hs5, hs6, hs7⟩ := hSw; go_simp <;> with_reducible rfl)
          try simp only [Act.put, List.getElem_toArray, List.getElem_cons_succ, List.getElem_cons_zero, List.setIfInBounds_toArray, List.set_cons_zero, List.set_cons_succ]
          refine but_take (i := 17) (v := ?_) 30 rfl (by kernel_rfl) (by kernel_rfl) (by kernel_rfl) (by kernel_rfl) (by kernel_rfl) (fun _ _ _ h => h) (HS.out _ HG6.out) (Or.inl ⟨by rfl, ?_⟩) ?_
          rotate_left
          · (intro w' hSw; (try dsimp only at hSw); obtain ⟨hs0, hs1, hs2, hs3, hs4, hs5, hs6, hs7⟩ := hSw; go_simp <;> with_reducible rfl)
          try simp only [Act.put, List.getElem_toArray, List.getElem_cons_succ, List.getElem_cons_zero, List.setIfInBounds_toArray, List.set_cons_zero, List.set_cons_succ]
          refine but_take (i := 18) (v := ?_) 30 rfl (by kernel_rfl) (by kernel_rfl) (by kernel_rfl) (by kernel_rfl) (by kernel_rfl) (fun _ _ _ h => h) (HS.out _ HG6.out) (Or.inl ⟨by rfl, ?_⟩) ?_
          rotate_left
          · (intro w' hSw; (try dsimp only at hSw); obtain ⟨hs0, hs1, hs2, hs3, hs4, hs5, hs6, hs7⟩ := hSw; go_simp <;> with_reducible rfl)
          try simp only [Act.put, List.getElem_toArray, List.getElem_cons_succ, List.getElem_cons_zero, List.setIfInBounds_toArray, List.set_cons_zero, List.set_cons_succ]
          refine but_take (i := 20) (v := ?_) 30 rfl (by kernel_rfl) (by kernel_rfl) (by kernel_rfl) (by kernel_rfl) (by kernel_rfl) (fun _ _ _ h => h) (HS.out _ HG6.out) (Or.inl ⟨by rfl, ?_⟩) ?_
          rotate_left
          · (intro w' hSw; (try dsimp only at hSw); obtain ⟨hs0, hs1, hs2, hs3, hs4, hs5, hs6, hs7⟩ := hSw; go_simp <;> with_reducible rfl)
          try simp only [Act.put, List.getElem_toArray, List.getElem_cons_succ, List.getElem_cons_zero, List.setIfInBounds_toArray, List.set_cons_zero, List.set_cons_succ]
          refine but_take (i := 21) (v := ?_) 30 rfl (by kernel_rfl) (by kernel_rfl) (by kernel_rfl) (by kernel_rfl) (by kernel_rfl) (fun _ _ _ h => h) (HS.out _ HG6.out) (Or.inl ⟨by rfl, ?_⟩) ?_
          rotate_left
          · (intro w' hSw; (try dsimp only at hSw); obtain ⟨hs0, hs1, hs2, hs3, hs4, hs5, hs6, hs7⟩ := hSw; go_simp <;> with_reducible rfl)
          try simp only [Act.put, List.getElem_toArray, List.getElem_cons_succ, List.getElem_cons_zero, List.setIfInBounds_toArray, List.set_cons_zero, List.set_cons_succ]
          refine but_take (i := 22) (v := ?_) 30 rfl (by kernel_rfl) (by kernel_rfl) (by kernel_rfl) (by kernel_rfl) (by kernel_rfl) (fun _ _ _ h => h) (HS.out _ HG6.out) (Or.inl ⟨by rfl, ?_⟩) ?_
          rotate_left
          · (intro w' hSw; (try dsimp only at hSw); obtain ⟨hs0, hs1, hs2, hs3, hs4, hs5, hs6, hs7⟩ := hSw; go_simp <;> with_reducible rfl)
          try simp only [Act.put, List.getElem_toArray, List.getElem_cons_succ, List.getElem_cons_zero, List.setIfInBounds_toArray, List.set_cons_zero, List.set_cons_succ]
          refine but_take (i := 23) (v := ?_) 30 rfl (by kernel_rfl) (by kernel_rfl) (by kernel_rfl) (by kernel_rfl) (by kernel_rfl) (fun _ _ _ h => h) (HS.out _ HG6.out) (Or.inl ⟨by rfl, ?_⟩) ?_
          rotate_left
          · (intro w' hSw; (try dsimp only at hSw); obtain ⟨hs0, hs1, hs2, hs3, hs4, hs5, hs6, hs7⟩ := hSw; go_simp <;> with_reducible rfl)
          try simp only [Act.put, List.getElem_toArray, List.getElem_cons_succ, List.getElem_cons_zero, List.setIfInBounds_toArray, List.set_cons_zero, List.set_cons_succ]
          refine but_one (i := 15) (by kernel_rfl) rfl ?_
          intro K HK'
          have HK := Lib.hid HK'
          clear HK'
          refine wanted_yes (by rfl) ?_
          try simp only [List.getElem_toArray, List.getElem_cons_succ, List.getElem_cons_zero]
          go_simp
          obtain ⟨w7, hw7⟩ : ∃ y : World, y = w6.alloc (.cells #[] 69) := ⟨_, rfl⟩
          have HO7 : Hid (OwnC Ty.bs w.cell? w7 w6.heap.size 69 (.slice (some ⟨w6.heap.size, 0, none⟩) 0 0) []) := Lib.hid (by rw [hw7]; exact OwnC.made0 Ty.bs _ _ _ _ (Nat.le_refl _) rfl)
          have G7 : Hid (Grow w6 w7) := Lib.hid (by rw [hw7]; exact (Grow.refl _).alloc _)
          have HG7 := Lib.hid (HG6.out.trans G7.out)
          rw [← hw7]
          clear hw7
          refine HK.out _ _ ⟨fun _ => HS.out _ HG7.out, ?_⟩
          clear HK K
          try simp only [Act.put, List.getElem_toArray, List.getElem_cons_succ, List.getElem_cons_zero, List.setIfInBounds_toArray, List.set_cons_zero, List.set_cons_succ]
          refine but_one (i := 19) (by kernel_rfl) rfl ?_
          intro K HK'
          have HK := Lib.hid HK'
          clear HK'
          refine wanted_yes (by rfl) ?_
          try simp only [List.getElem_toArray, List.getElem_cons_succ, List.getElem_cons_zero]
          refine wp_appc (c := w.cell?) (base := w6.heap.size) (l := []) (m := l.take i) (v := .slice (some ⟨w6.heap.size, 0, none⟩) 0 0) ei_bts rfl (one_Tsl Ty.byte) (by decide) (.tmp 86) (.tmp 89) rfl rfl HO7.out rfl (Src.of_sl_c (by decide) (G4.out.trans (GX.out.trans HG7.out)).sub hTK.out) (by rw [List.length_take]; simp; omega) G7.out.size ?_
          intro a8 c8 w8 ho8 hg8 hb8
          try simp only [List.length_nil, Nat.zero_add, List.nil_append] at ho8
          try simp only [List.length_nil, Nat.zero_add]
          have HO8 := Lib.hid ho8
          have G8 := Lib.hid (grow_by (w0 := w6) G7.out hg8 (fun q hq => (HO7.out.lt q hq).1))
          have HG8 := Lib.hid (HG6.out.trans G8.out)
          clear ho8 hg8 hb8
          refine HK.out _ _ ⟨fun _ => HS.out _ HG8.out, ?_⟩
          clear HK K
          try simp only [Act.put, List.setIfInBounds_toArray, List.set_cons_zero, List.set_cons_succ]
          refine but_one (i := 24) (by kernel_rfl) rfl ?_
          intro K HK'
          have HK := Lib.hid HK'
          clear HK'
          refine wanted_yes (by rfl) ?_
          try simp only [List.getElem_toArray, List.getElem_cons_succ, List.getElem_cons_zero]
          refine wp_appc (c := w.cell?) (base := w6.heap.size) (l := l.take i) (m := l.drop (i + 1)) (v := .slice a8 (l.take i).length c8) ei_bts rfl (one_Tsl Ty.byte) (by decide) (.tmp 90) (.tmp 94) rfl rfl HO8.out rfl (Src.of_sl_c (by decide) (G4.out.trans (GX.out.trans HG8.out)).sub ?srcd) (by rw [List.length_take, List.length_drop]; omega) G8.out.size ?_
          case srcd => exact hDR.out
          intro a9 c9 w9 ho9 hg9 hb9
          rw [HLF.out] at ho9
          have HO9 := Lib.hid (ho9.sl (by decide) (G4.out.trans (GX.out.trans (HG6.out.trans (grow_by (w0 := w6) G8.out hg9 (fun q hq => (HO8.out.lt q hq).1))))).sub)
          have HG9 := Lib.hid (HG6.out.trans (grow_by (w0 := w6) G8.out hg9 (fun q hq => (HO8.out.lt q hq).1)))
          clear ho9 hg9 hb9
          refine HK.out _ _ ⟨fun _ => HS.out _ HG9.out, ?_⟩
          clear HK K
          try simp only [Act.put, List.setIfInBounds_toArray, List.set_cons_zero, List.set_cons_succ]
          refine but_one (i := 25) (by kernel_rfl) rfl ?_
          intro K HK'
          have HK := Lib.hid HK'
          clear HK'
          refine wanted_yes (by rfl) ?_
          try simp only [List.getElem_toArray, List.getElem_cons_succ, List.getElem_cons_zero]
          go_simp
          go_at_call 64
          refine (ref_sameNet (l' := l.eraseIdx i) _ (HX34.out.mono (GX.out.trans HG9.out).sub) ?nts).mono ?_
          case nts => first | exact HO9.out | (have h9 := HO9.out; rw [show (l.take i).length + (l.drop (i + 1)).length = min i l.length by rw [List.length_take, List.length_drop]; omega] at h9; exact h9) | (have h9 := HO9.out; simpa using h9)
          rw [decide_eq_true rfl]
          rintro e10 w10 ⟨rfl, hb10⟩
          have HG10 := Lib.hid (Grow.trans HG9.out hb10)
          clear hb10
          refine HK.out _ _ ⟨fun _ => HS.out _ HG10.out, ?_⟩
          clear HK K
          try simp only [Act.put, List.getElem_toArray, List.getElem_cons_succ, List.getElem_cons_zero, List.setIfInBounds_toArray, List.set_cons_zero, List.set_cons_succ]
          refine but_take (i := 26) (v := ?_) 30 rfl (by kernel_rfl) (by kernel_rfl) (by kernel_rfl) (by kernel_rfl) (by kernel_rfl) (fun _ _ _ h => h) (HS.out _ HG10.out) (Or.inl ⟨by rfl, ?_⟩) ?_
          rotate_left
          · (intro w' hSw; (try dsimp only at hSw); obtain ⟨hs0, hs1, hs2, hs3, hs4, hs5, hs6, hs7⟩ := hSw; go_simp <;> with_reducible rfl)
          try simp only [Act.put, List.getElem_toArray, List.getElem_cons_succ, List.getElem_cons_zero, List.setIfInBounds_toArray, List.set_cons_zero, List.set_cons_succ]
          refine but_one (i := 27) (by kernel_rfl) rfl ?_
          intro K HK'
          have HK := Lib.hid HK'
          clear HK'
          skip
          try simp only [List.getElem_toArray, List.getElem_cons_succ, List.getElem_cons_zero]
          go_simp
          refine HK.out _ _ ⟨fun h => absurd rfl h, ?_⟩
          clear HK K
          try simp only [Act.put, List.getElem_toArray, List.getElem_cons_succ, List.getElem_cons_zero, List.setIfInBounds_toArray, List.set_cons_zero, List.set_cons_succ]
          refine but_done (by kernel_rfl) ?_
          go_wp2
          go_meet
          case rel => exact ⟨rfl, HG10.out⟩

      case rest =>
      obtain ⟨rfl, hgc⟩ := hcut
      obtain ⟨wy, rfl⟩ : ∃ y : World, y = wc := ⟨_, rfl⟩
      have GY := Lib.hid (G4.out.trans (GX.out.trans hgc))
      have G4Y := Lib.hid (GX.out.trans hgc)
      have HXY := Lib.hid (HX4.out.mono G4Y.out.sub)
      clear hgc HS RX RX8 HM4X HM5X hTK hDR0 HM5 RB8 G45 G5X GX
      go_upto_region 13 with fail
      by_cases h24 : l.length < 24
      · have hag : ag = l ++ [bi] := by
          have h9 := HT2.out
          rw [twice_more ⟨by omega, by omega⟩ h24, List.getD_eq_getElem?_getD, Int.toNat_natCast, List.getElem?_eq_getElem hil, HLI.out] at h9
          exact (congrArg Prod.fst h9).symm
        have hal : ag.length = l.length + 1 := by rw [hag]; simp
        have HTA : Hid (ag.take l.length = l) := Lib.hid (by rw [hag]; simp)
        have hlast : ag[l.length]'(by omega) = bi := by simp [hag]
        have h9 := HXY.out
        rw [hal] at h9
        have HXT := Lib.hid (h9.take' l.length (by omega))
        rw [HTA.out] at HXT
        obtain ⟨a4', c4', he4, hcc, hcm4, -, hel4⟩ := h9
        simp only [Value.slice.injEq] at he4
        obtain ⟨rfl, -, rfl⟩ := he4
        obtain ⟨b4, o4, u4, rfl, x4, hb4⟩ := Nts.at_ hel4 l.length (by omega)
        rw [hlast] at hb4
        obtain ⟨au4, cu4, rfl, -⟩ := id hb4
        have ci := GY.out.sub _ _ CI.out
        have HCV4 := Lib.hid (fun (W : World) (hW : Grow wy W) => bts_string (w := W) (hb4.mono hW.sub))
        have HCVI := Lib.hid (fun (W : World) (hW : Grow wy W) => bts_string (w := W) (HBI.out.mono (GY.out.trans hW).sub))
        have HS : Hid (∀ W, Grow wy W → W.cell? ⟨b4, o4 + l.length, none⟩ = some (.slice au4 bi.length cu4) ∧ W.cell? ⟨bb, o + i, none⟩ = some (.slice au bi.length cu) ∧ (convert 69 9 (.slice au4 bi.length cu4)).run Try.prog W = .ok (.string (strOf bi)) W ∧ (convert 69 9 (.slice au bi.length cu)).run Try.prog W = .ok (.string (strOf bi)) W) := fun W hW => ⟨hW.sub _ _ x4, hW.sub _ _ ci, HCV4.out W hW, HCVI.out W hW⟩
        have hi8 : (l.length : Int) ≤ (c4 : Int) := by rw [hal] at hcc; omega
        have hi9 : (l.length : Int) < (l.length : Int) + 1 := by omega
        have hi10 : (l.length : Int) < 24 := by omega
        have hi11 : IntKind.i64.wrap ((l.length : Int) + 1) = (l.length : Int) + 1 := IntWalk.i64_in _ (by omega)
        have HAL9 := Lib.hid hal
        rw [hal]
        clear hag hal hlast hel4 hb4 hcc hcm4 x4 ci HXY HT2
        generalize strOf bi = sb at *
        go_cut [138] from 99 (fun s138 wc => s138 = .bool false ∧ Grow wy wc)
        case first =>
          go_region_held3 (fun w' => w'.cell? ⟨b4, o4 + l.length, none⟩ = some (.slice au4 bi.length cu4) ∧ w'.cell? ⟨bb, o + i, none⟩ = some (.slice au bi.length cu) ∧ (convert 69 9 (.slice au4 bi.length cu4)).run Try.prog w' = .ok (.string sb) w' ∧ (convert 69 9 (.slice au bi.length cu)).run Try.prog w' = .ok (.string sb) w') (first | assumption | exact HS.out _ (by repeat (first | with_reducible assumption | with_reducible exact Grow.refl _ | with_reducible apply Grow.drewN | with_reducible apply Grow.drew | with_reducible apply Grow.alloc | (refine Grow.trans ?_ (by with_reducible assumption))))) (first | (go_at_call 64; refine (ref_sameNet (l' := l) _ (HXT.out.mono (Grow.sub (by repeat (first | with_reducible assumption | with_reducible exact Grow.refl _ | with_reducible apply Grow.drewN | with_reducible apply Grow.drew | with_reducible apply Grow.alloc | (refine Grow.trans ?_ (by with_reducible assumption)))))) (HV.out.mono (GY.out.trans (by repeat (first | with_reducible assumption | with_reducible exact Grow.refl _ | with_reducible apply Grow.drewN | with_reducible apply Grow.drew | with_reducible apply Grow.alloc | (refine Grow.trans ?_ (by with_reducible assumption))))).sub)).mono ?_; rw [decide_eq_true rfl]; rintro e5 w5 ⟨rfl, hb5⟩))
          have GW5 : Grow wy w5 := (by repeat (first | with_reducible assumption | with_reducible exact Grow.refl _ | with_reducible apply Grow.drewN | with_reducible apply Grow.drew | with_reducible apply Grow.alloc | (refine Grow.trans ?_ (by with_reducible assumption))))
          go_wp2
          go_meet
          case rel => exact ⟨rfl, GW5⟩
        case rest =>
        obtain ⟨rfl, hgc⟩ := hcut
        have GZ := Lib.hid (G4Y.out.trans hgc)
        clear hgc
        go_wp2
        go_meet
        case rel => exact ⟨rfl, GZ.out⟩
      · have hag : ag = l := by
          have h9 := HT2.out
          rw [twice_full ⟨by omega, by omega⟩ h24] at h9
          exact (congrArg Prod.fst h9).symm
        subst hag
        have hi8 : (ag.length : Int) ≤ (c4 : Int) := by obtain ⟨a4', c4', he4, hcc, -⟩ := HXY.out; simp only [Value.slice.injEq] at he4; omega
        have hi10 : ¬ (ag.length : Int) < 24 := by omega
        have hi11 : IntKind.i64.wrap ((ag.length : Int) + 1) = (ag.length : Int) + 1 := IntWalk.i64_in _ (by omega)
        have hi12 : ¬ (ag.length : Int) = (ag.length : Int) + 1 := by omega
        have hb107 : ((ag.length : Int) == (ag.length : Int) + 1) = false := by rw [beq_eq_false_iff_ne]; omega
        have hb101 : decide ((ag.length : Int) < 24) = false := decide_eq_false hi10
        have hi13 : (0 : Int) ≤ (ag.length : Int) := by omega
        have hi14 : ¬ (ag.length : Int) < (ag.length : Int) := by omega
        go_cut [138] from 99 (fun s138 wc => s138 = .bool false ∧ Grow wy wc)
        case first =>
          have HTRU : Hid (∀ W, Grow wy W → True) := fun _ _ => trivial
          refine but_start (fun w' => True) 39 (by kernel_rfl) ?_
          obtain ⟨wd, hWd⟩ : ∃ x : World, x = wy.drew := ⟨_, rfl⟩
          rw [← hWd]
          have GD : Grow wy wd := by rw [hWd]; exact (Grow.refl _).drew
          have zD : wy.heap.size = wd.heap.size := by rw [hWd]; rfl
          have ZD := Lib.hid zD
          clear hWd zD
          refine but_take (i := 0) (v := ?_) 42 rfl (by kernel_rfl) (by kernel_rfl) (by kernel_rfl) (by kernel_rfl) (by kernel_rfl) (fun _ _ _ h => h) (HTRU.out _ GD) (Or.inl ⟨by rfl, ?_⟩) ?_
          rotate_left
          · (intro w' hSw; (try dsimp only at hSw); go_simp <;> with_reducible rfl)
          try simp only [Act.put, List.getElem_toArray, List.getElem_cons_zero, List.setIfInBounds_toArray, List.set_cons_zero, List.set_cons_succ]
          refine but_take (i := 1) (v := ?_) 42 rfl (by kernel_rfl) (by kernel_rfl) (by kernel_rfl) (by kernel_rfl) (by kernel_rfl) (fun _ _ _ h => h) (HTRU.out _ GD) (Or.inl ⟨by rfl, ?_⟩) ?_
          rotate_left
          · (intro w' hSw; (try dsimp only at hSw); go_simp <;> with_reducible rfl)
          try simp only [Act.put, List.getElem_toArray, List.getElem_cons_succ, List.getElem_cons_zero, List.setIfInBounds_toArray, List.set_cons_zero, List.set_cons_succ]
          refine but_take (i := 2) (v := ?_) 42 rfl (by kernel_rfl) (by kernel_rfl) (by kernel_rfl) (by kernel_rfl) (by kernel_rfl) (fun _ _ _ h => h) (HTRU.out _ GD) (Or.inl ⟨by rfl, ?_⟩) ?_
          rotate_left
          · (intro w' hSw; (try dsimp only at hSw); go_simp <;> with_reducible rfl)
          try simp only [Act.put, List.getElem_toArray, List.getElem_cons_succ, List.getElem_cons_zero, List.setIfInBounds_toArray, List.set_cons_zero, List.set_cons_succ]
          refine but_take (i := 3) (v := ?_) 42 rfl (by kernel_rfl) (by kernel_rfl) (by kernel_rfl) (by kernel_rfl) (by kernel_rfl) (fun _ _ _ h => h) (HTRU.out _ GD) (Or.inl ⟨by rfl, ?_⟩) ?_
          rotate_left
          · (intro w' hSw; (try dsimp only at hSw); go_simp <;> with_reducible rfl)
          try simp only [Act.put, List.getElem_toArray, List.getElem_cons_succ, List.getElem_cons_zero, List.setIfInBounds_toArray, List.set_cons_zero, List.set_cons_succ]
          refine but_take (i := 4) (v := ?_) 42 rfl (by kernel_rfl) (by kernel_rfl) (by kernel_rfl) (by kernel_rfl) (by kernel_rfl) (fun _ _ _ h => h) (HTRU.out _ GD) (Or.inl ⟨by rfl, ?_⟩) ?_
          rotate_left
          · (intro w' hSw; (try dsimp only at hSw); go_simp <;> with_reducible rfl)
          try simp only [Act.put, List.getElem_toArray, List.getElem_cons_succ, List.getElem_cons_zero, List.setIfInBounds_toArray, List.set_cons_zero, List.set_cons_succ]
          refine but_take (i := 5) (v := ?_) 42 rfl (by kernel_rfl) (by kernel_rfl) (by kernel_rfl) (by kernel_rfl) (by kernel_rfl) (fun _ _ _ h => h) (HTRU.out _ GD) (Or.inl ⟨by rfl, ?_⟩) ?_
          rotate_left
          · (intro w' hSw; (try dsimp only at hSw); go_simp <;> with_reducible rfl)
          try simp only [Act.put, List.getElem_toArray, List.getElem_cons_succ, List.getElem_cons_zero, List.setIfInBounds_toArray, List.set_cons_zero, List.set_cons_succ]
          refine but_take (i := 6) (v := ?_) 42 rfl (by kernel_rfl) (by kernel_rfl) (by kernel_rfl) (by kernel_rfl) (by kernel_rfl) (fun _ _ _ h => h) (HTRU.out _ GD) (Or.inl ⟨by rfl, ?_⟩) ?_
          rotate_left
          · (intro w' hSw; (try dsimp only at hSw); go_simp <;> with_reducible rfl)
          try simp only [Act.put, List.getElem_toArray, List.getElem_cons_succ, List.getElem_cons_zero, List.setIfInBounds_toArray, List.set_cons_zero, List.set_cons_succ]
          refine but_take (i := 7) (v := ?_) 42 rfl (by kernel_rfl) (by kernel_rfl) (by kernel_rfl) (by kernel_rfl) (by kernel_rfl) (fun _ _ _ h => h) (HTRU.out _ GD) (Or.inl ⟨by rfl, ?_⟩) ?_
          rotate_left
          · (intro w' hSw; (try dsimp only at hSw); go_simp <;> with_reducible rfl)
          try simp only [Act.put, List.getElem_toArray, List.getElem_cons_succ, List.getElem_cons_zero, List.setIfInBounds_toArray, List.set_cons_zero, List.set_cons_succ]
          refine but_take (i := 8) (v := ?_) 42 rfl (by kernel_rfl) (by kernel_rfl) (by kernel_rfl) (by kernel_rfl) (by kernel_rfl) (fun _ _ _ h => h) (HTRU.out _ GD) (Or.inl ⟨by rfl, ?_⟩) ?_
          rotate_left
          · (intro w' hSw; (try dsimp only at hSw); go_simp <;> with_reducible rfl)
          try simp only [Act.put, List.getElem_toArray, List.getElem_cons_succ, List.getElem_cons_zero, List.setIfInBounds_toArray, List.set_cons_zero, List.set_cons_succ]
          refine but_take (i := 9) (v := ?_) 42 rfl (by kernel_rfl) (by kernel_rfl) (by kernel_rfl) (by kernel_rfl) (by kernel_rfl) (fun _ _ _ h => h) (HTRU.out _ GD) (Or.inl ⟨by rfl, ?_⟩) ?_
          rotate_left
          · (intro w' hSw; (try dsimp only at hSw); go_simp <;> with_reducible rfl)
          try simp only [Act.put, List.getElem_toArray, List.getElem_cons_succ, List.getElem_cons_zero, List.setIfInBounds_toArray, List.set_cons_zero, List.set_cons_succ]
          refine but_take (i := 10) (v := ?_) 42 rfl (by kernel_rfl) (by kernel_rfl) (by kernel_rfl) (by kernel_rfl) (by kernel_rfl) (fun _ _ _ h => h) (HTRU.out _ GD) (Or.inl ⟨by rfl, ?_⟩) ?_
          rotate_left
          · (intro w' hSw; (try dsimp only at hSw); go_simp <;> with_reducible rfl)
          try simp only [Act.put, List.getElem_toArray, List.getElem_cons_succ, List.getElem_cons_zero, List.setIfInBounds_toArray, List.set_cons_zero, List.set_cons_succ]
          refine but_take (i := 11) (v := ?_) 42 rfl (by kernel_rfl) (by kernel_rfl) (by kernel_rfl) (by kernel_rfl) (by kernel_rfl) (fun _ _ _ h => h) (HTRU.out _ GD) (Or.inl ⟨by rfl, ?_⟩) ?_
          rotate_left
          · (intro w' hSw; (try dsimp only at hSw); go_simp <;> with_reducible rfl)
          try simp only [Act.put, List.getElem_toArray, List.getElem_cons_succ, List.getElem_cons_zero, List.setIfInBounds_toArray, List.set_cons_zero, List.set_cons_succ]
          refine but_take (i := 12) (v := ?_) 42 rfl (by kernel_rfl) (by kernel_rfl) (by kernel_rfl) (by kernel_rfl) (by kernel_rfl) (fun _ _ _ h => h) (HTRU.out _ GD) (Or.inl ⟨by rfl, ?_⟩) ?_
          rotate_left
          · (intro w' hSw; (try dsimp only at hSw); go_simp <;> with_reducible rfl)
          try simp only [Act.put, List.getElem_toArray, List.getElem_cons_succ, List.getElem_cons_zero, List.setIfInBounds_toArray, List.set_cons_zero, List.set_cons_succ]
          refine but_take (i := 13) (v := ?_) 42 rfl (by kernel_rfl) (by kernel_rfl) (by kernel_rfl) (by kernel_rfl) (by kernel_rfl) (fun _ _ _ h => h) (HTRU.out _ GD) (Or.inl ⟨by rfl, ?_⟩) ?_
          rotate_left
          · (intro w' hSw; (try dsimp only at hSw); go_simp <;> with_reducible rfl)
          try simp only [Act.put, List.getElem_toArray, List.getElem_cons_succ, List.getElem_cons_zero, List.setIfInBounds_toArray, List.set_cons_zero, List.set_cons_succ]
          refine but_take (i := 14) (v := ?_) 42 rfl (by kernel_rfl) (by kernel_rfl) (by kernel_rfl) (by kernel_rfl) (by kernel_rfl) (fun _ _ _ h => h) (HTRU.out _ GD) (Or.inl ⟨by rfl, ?_⟩) ?_
          rotate_left
          · (intro w' hSw; (try dsimp only at hSw); go_simp <;> with_reducible rfl)
          try simp only [Act.put, List.getElem_toArray, List.getElem_cons_succ, List.getElem_cons_zero, List.setIfInBounds_toArray, List.set_cons_zero, List.set_cons_succ]
          refine but_take (i := 15) (v := ?_) 42 rfl (by kernel_rfl) (by kernel_rfl) (by kernel_rfl) (by kernel_rfl) (by kernel_rfl) (fun _ _ _ h => h) (HTRU.out _ GD) (Or.inl ⟨by rfl, ?_⟩) ?_
          rotate_left
          · (intro w' hSw; (try dsimp only at hSw); go_simp <;> with_reducible rfl)
          try simp only [Act.put, List.getElem_toArray, List.getElem_cons_succ, List.getElem_cons_zero, List.setIfInBounds_toArray, List.set_cons_zero, List.set_cons_succ]
          refine but_one (i := 16) (by kernel_rfl) rfl ?_
          intro K HK'
          have HK := Lib.hid HK'
          clear HK'
          refine wanted_yes (by rfl) ?_
          try simp only [List.getElem_toArray, List.getElem_cons_succ, List.getElem_cons_zero]
          go_simp
          go_at_call 64
          refine (ref_sameNet (l' := ag) _ (HXY.out.mono (Grow.sub GD)) (HV.out.mono (GY.out.trans GD).sub)).mono ?_
          rw [decide_eq_true rfl]
          rintro e5 w5 ⟨rfl, hb5⟩
          have GW5 := Grow.trans GD hb5
          refine HK.out _ _ ⟨fun _ => HTRU.out _ GW5, ?_⟩
          clear HK K
          try simp only [Act.put, List.getElem_toArray, List.getElem_cons_succ, List.getElem_cons_zero, List.setIfInBounds_toArray, List.set_cons_zero, List.set_cons_succ]
          refine but_take (i := 17) (v := ?_) 42 rfl (by kernel_rfl) (by kernel_rfl) (by kernel_rfl) (by kernel_rfl) (by kernel_rfl) (fun _ _ _ h => h) (HTRU.out _ GW5) (Or.inl ⟨by rfl, ?_⟩) ?_
          rotate_left
          · (intro w' hSw; (try dsimp only at hSw); go_simp <;> with_reducible rfl)
          try simp only [Act.put, List.getElem_toArray, List.getElem_cons_succ, List.getElem_cons_zero, List.setIfInBounds_toArray, List.set_cons_zero, List.set_cons_succ]
          refine but_take (i := 18) (v := ?_) 42 rfl (by kernel_rfl) (by kernel_rfl) (by kernel_rfl) (by kernel_rfl) (by kernel_rfl) (fun _ _ _ h => h) (HTRU.out _ GW5) (Or.inl ⟨by rfl, ?_⟩) ?_
          rotate_left
          · (intro w' hSw; (try dsimp only at hSw); go_simp <;> with_reducible rfl)
          try simp only [Act.put, List.getElem_toArray, List.getElem_cons_succ, List.getElem_cons_zero, List.setIfInBounds_toArray, List.set_cons_zero, List.set_cons_succ]
          refine but_take (i := 19) (v := ?_) 42 rfl (by kernel_rfl) (by kernel_rfl) (by kernel_rfl) (by kernel_rfl) (by kernel_rfl) (fun _ _ _ h => h) (HTRU.out _ GW5) (Or.inl ⟨by rfl, ?_⟩) ?_
          rotate_left
          · (intro w' hSw; (try dsimp only at hSw); go_simp <;> with_reducible rfl)
          try simp only [Act.put, List.getElem_toArray, List.getElem_cons_succ, List.getElem_cons_zero, List.setIfInBounds_toArray, List.set_cons_zero, List.set_cons_succ]
          refine but_take (i := 20) (v := ?_) 42 rfl (by kernel_rfl) (by kernel_rfl) (by kernel_rfl) (by kernel_rfl) (by kernel_rfl) (fun _ _ _ h => h) (HTRU.out _ GW5) (Or.inl ⟨by rfl, ?_⟩) ?_
          rotate_left
          · (intro w' hSw; (try dsimp only at hSw); go_simp <;> with_reducible rfl)
          try simp only [Act.put, List.getElem_toArray, List.getElem_cons_succ, List.getElem_cons_zero, List.setIfInBounds_toArray, List.set_cons_zero, List.set_cons_succ]
          refine but_take (i := 21) (v := ?_) 42 rfl (by kernel_rfl) (by kernel_rfl) (by kernel_rfl) (by kernel_rfl) (by kernel_rfl) (fun _ _ _ h => h) (HTRU.out _ GW5) (Or.inl ⟨by rfl, ?_⟩) ?_
          rotate_left
          · (intro w' hSw; (try dsimp only at hSw); go_simp <;> with_reducible rfl)
          try simp only [Act.put, List.getElem_toArray, List.getElem_cons_succ, List.getElem_cons_zero, List.setIfInBounds_toArray, List.set_cons_zero, List.set_cons_succ]
          refine but_take (i := 22) (v := ?_) 42 rfl (by kernel_rfl) (by kernel_rfl) (by kernel_rfl) (by kernel_rfl) (by kernel_rfl) (fun _ _ _ h => h) (HTRU.out _ GW5) (Or.inl ⟨by rfl, ?_⟩) ?_
          rotate_left
          · (intro w' hSw; (try dsimp only at hSw); go_simp <;> with_reducible rfl)
          try simp only [Act.put, List.getElem_toArray, List.getElem_cons_succ, List.getElem_cons_zero, List.setIfInBounds_toArray, List.set_cons_zero, List.set_cons_succ]
          refine but_take (i := 23) (v := ?_) 42 rfl (by kernel_rfl) (by kernel_rfl) (by kernel_rfl) (by kernel_rfl) (by kernel_rfl) (fun _ _ _ h => h) (HTRU.out _ GW5) (Or.inl ⟨by rfl, ?_⟩) ?_
          rotate_left
          · (intro w' hSw; (try dsimp only at hSw); go_simp <;> with_reducible rfl)
          try simp only [Act.put, List.getElem_toArray, List.getElem_cons_succ, List.getElem_cons_zero, List.setIfInBounds_toArray, List.set_cons_zero, List.set_cons_succ]
          refine but_take (i := 24) (v := ?_) 42 rfl (by kernel_rfl) (by kernel_rfl) (by kernel_rfl) (by kernel_rfl) (by kernel_rfl) (fun _ _ _ h => h) (HTRU.out _ GW5) (Or.inl ⟨by rfl, ?_⟩) ?_
          rotate_left
          · (intro w' hSw; (try dsimp only at hSw); go_simp <;> with_reducible rfl)
          try simp only [Act.put, List.getElem_toArray, List.getElem_cons_succ, List.getElem_cons_zero, List.setIfInBounds_toArray, List.set_cons_zero, List.set_cons_succ]
          refine but_take (i := 25) (v := ?_) 42 rfl (by kernel_rfl) (by kernel_rfl) (by kernel_rfl) (by kernel_rfl) (by kernel_rfl) (fun _ _ _ h => h) (HTRU.out _ GW5) (Or.inl ⟨by rfl, ?_⟩) ?_
          rotate_left
          · (intro w' hSw; (try dsimp only at hSw); go_simp <;> with_reducible rfl)
          try simp only [Act.put, List.getElem_toArray, List.getElem_cons_succ, List.getElem_cons_zero, List.setIfInBounds_toArray, List.set_cons_zero, List.set_cons_succ]
          refine but_take (i := 26) (v := undef) 42 rfl (by kernel_rfl) (by kernel_rfl) (by kernel_rfl) (by kernel_rfl) (by kernel_rfl) (fun _ _ _ h => h) (HTRU.out _ GW5) (Or.inr ⟨by rfl, rfl⟩) ?_
          try simp only [Act.put, List.getElem_toArray, List.getElem_cons_succ, List.getElem_cons_zero, List.setIfInBounds_toArray, List.set_cons_zero, List.set_cons_succ]
          refine but_take (i := 27) (v := undef) 42 rfl (by kernel_rfl) (by kernel_rfl) (by kernel_rfl) (by kernel_rfl) (by kernel_rfl) (fun _ _ _ h => h) (HTRU.out _ GW5) (Or.inr ⟨by rfl, rfl⟩) ?_
          try simp only [Act.put, List.getElem_toArray, List.getElem_cons_succ, List.getElem_cons_zero, List.setIfInBounds_toArray, List.set_cons_zero, List.set_cons_succ]
          refine but_take (i := 28) (v := undef) 42 rfl (by kernel_rfl) (by kernel_rfl) (by kernel_rfl) (by kernel_rfl) (by kernel_rfl) (fun _ _ _ h => h) (HTRU.out _ GW5) (Or.inr ⟨by rfl, rfl⟩) ?_
          try simp only [Act.put, List.getElem_toArray, List.getElem_cons_succ, List.getElem_cons_zero, List.setIfInBounds_toArray, List.set_cons_zero, List.set_cons_succ]
          refine but_take (i := 29) (v := undef) 42 rfl (by kernel_rfl) (by kernel_rfl) (by kernel_rfl) (by kernel_rfl) (by kernel_rfl) (fun _ _ _ h => h) (HTRU.out _ GW5) (Or.inr ⟨by rfl, rfl⟩) ?_
          try simp only [Act.put, List.getElem_toArray, List.getElem_cons_succ, List.getElem_cons_zero, List.setIfInBounds_toArray, List.set_cons_zero, List.set_cons_succ]
          refine but_take (i := 30) (v := undef) 42 rfl (by kernel_rfl) (by kernel_rfl) (by kernel_rfl) (by kernel_rfl) (by kernel_rfl) (fun _ _ _ h => h) (HTRU.out _ GW5) (Or.inr ⟨by rfl, rfl⟩) ?_
          try simp only [Act.put, List.getElem_toArray, List.getElem_cons_succ, List.getElem_cons_zero, List.setIfInBounds_toArray, List.set_cons_zero, List.set_cons_succ]
          refine but_take (i := 31) (v := undef) 42 rfl (by kernel_rfl) (by kernel_rfl) (by kernel_rfl) (by kernel_rfl) (by kernel_rfl) (fun _ _ _ h => h) (HTRU.out _ GW5) (Or.inr ⟨by rfl, rfl⟩) ?_
          try simp only [Act.put, List.getElem_toArray, List.getElem_cons_succ, List.getElem_cons_zero, List.setIfInBounds_toArray, List.set_cons_zero, List.set_cons_succ]
          refine but_take (i := 32) (v := undef) 42 rfl (by kernel_rfl) (by kernel_rfl) (by kernel_rfl) (by kernel_rfl) (by kernel_rfl) (fun _ _ _ h => h) (HTRU.out _ GW5) (Or.inr ⟨by rfl, rfl⟩) ?_
          try simp only [Act.put, List.getElem_toArray, List.getElem_cons_succ, List.getElem_cons_zero, List.setIfInBounds_toArray, List.set_cons_zero, List.set_cons_succ]
          refine but_take (i := 33) (v := undef) 42 rfl (by kernel_rfl) (by kernel_rfl) (by kernel_rfl) (by kernel_rfl) (by kernel_rfl) (fun _ _ _ h => h) (HTRU.out _ GW5) (Or.inr ⟨by rfl, rfl⟩) ?_
          try simp only [Act.put, List.getElem_toArray, List.getElem_cons_succ, List.getElem_cons_zero, List.setIfInBounds_toArray, List.set_cons_zero, List.set_cons_succ]
          refine but_take (i := 34) (v := undef) 42 rfl (by kernel_rfl) (by kernel_rfl) (by kernel_rfl) (by kernel_rfl) (by kernel_rfl) (fun _ _ _ h => h) (HTRU.out _ GW5) (Or.inr ⟨by rfl, rfl⟩) ?_
          try simp only [Act.put, List.getElem_toArray, List.getElem_cons_succ, List.getElem_cons_zero, List.setIfInBounds_toArray, List.set_cons_zero, List.set_cons_succ]
          refine but_take (i := 35) (v := undef) 42 rfl (by kernel_rfl) (by kernel_rfl) (by kernel_rfl) (by kernel_rfl) (by kernel_rfl) (fun _ _ _ h => h) (HTRU.out _ GW5) (Or.inr ⟨by rfl, rfl⟩) ?_
          try simp only [Act.put, List.getElem_toArray, List.getElem_cons_succ, List.getElem_cons_zero, List.setIfInBounds_toArray, List.set_cons_zero, List.set_cons_succ]
          refine but_take (i := 36) (v := undef) 42 rfl (by kernel_rfl) (by kernel_rfl) (by kernel_rfl) (by kernel_rfl) (by kernel_rfl) (fun _ _ _ h => h) (HTRU.out _ GW5) (Or.inr ⟨by rfl, rfl⟩) ?_
          try simp only [Act.put, List.getElem_toArray, List.getElem_cons_succ, List.getElem_cons_zero, List.setIfInBounds_toArray, List.set_cons_zero, List.set_cons_succ]
          refine but_take (i := 37) (v := undef) 42 rfl (by kernel_rfl) (by kernel_rfl) (by kernel_rfl) (by kernel_rfl) (by kernel_rfl) (fun _ _ _ h => h) (HTRU.out _ GW5) (Or.inr ⟨by rfl, rfl⟩) ?_
          try simp only [Act.put, List.getElem_toArray, List.getElem_cons_succ, List.getElem_cons_zero, List.setIfInBounds_toArray, List.set_cons_zero, List.set_cons_succ]
          refine but_take (i := 38) (v := ?_) 42 rfl (by kernel_rfl) (by kernel_rfl) (by kernel_rfl) (by kernel_rfl) (by kernel_rfl) (fun _ _ _ h => h) (HTRU.out _ GW5) (Or.inl ⟨by rfl, ?_⟩) ?_
          rotate_left
          · (intro w' hSw; (try dsimp only at hSw); go_simp <;> with_reducible rfl)
          try simp only [Act.put, List.getElem_toArray, List.getElem_cons_succ, List.getElem_cons_zero, List.setIfInBounds_toArray, List.set_cons_zero, List.set_cons_succ]
          refine but_one (i := 39) (by kernel_rfl) rfl ?_
          intro K HK'
          have HK := Lib.hid HK'
          clear HK'
          skip
          try simp only [List.getElem_toArray, List.getElem_cons_succ, List.getElem_cons_zero]
          go_simp
          refine HK.out _ _ ⟨fun h => absurd rfl h, ?_⟩
          clear HK K
          try simp only [Act.put, List.getElem_toArray, List.getElem_cons_succ, List.getElem_cons_zero, List.setIfInBounds_toArray, List.set_cons_zero, List.set_cons_succ]
          refine but_done (by kernel_rfl) ?_
          go_wp2
          go_meet
          case rel => exact ⟨rfl, GW5⟩
        case rest =>
        obtain ⟨rfl, hgc⟩ := hcut
        have GZ := Lib.hid (G4Y.out.trans hgc)
        clear hgc
        go_wp2
        go_meet
        case rel => exact ⟨rfl, GZ.out⟩

    · have hT := HT.out
      unfold takeB at hT
      rw [if_neg hin] at hT
      simp only [Prod.mk.injEq] at hT
      obtain ⟨rfl, rfl, rfl⟩ := hT
      have hT9 := HT2.out
      rw [twice_none hin] at hT9
      simp only [Prod.mk.injEq] at hT9
      obtain ⟨rfl, rfl⟩ := hT9
      have hor : n < 0 ∨ (l.length : Int) ≤ n := by omega
      clear hin
      have hdec : decide (n < 0 ∨ (l.length : Int) ≤ n) = true := decide_eq_true hor
      rw [hdec]
      all_goals
        go_wp2_with fail
        refine (ref_sameNet _ HX34.out (HV.out.mono G4.out.sub)).mono ?_
        rintro e w5 ⟨rfl, hb⟩
        rw [decide_eq_true rfl]
        have G5 := Lib.hid hb
        clear hb
        go_wp2_with fail
        refine (ref_sameNet _ (HX4.out.mono G5.out.sub) (HV.out.mono (G4.out.trans G5.out).sub)).mono ?_
        rintro e w6 ⟨rfl, hb⟩
        rw [decide_eq_true rfl]
        have G6 := Lib.hid (G5.out.trans hb)
        clear hb
        go_wp2
        go_meet
        case rel => exact ⟨rfl, G6.out⟩
  case rest =>
  obtain ⟨rfl, hcut⟩ := hcut
  have GC := Lib.hid hcut
  have G5 := Lib.hid (G4.out.trans hcut)
  obtain ⟨wb, rfl⟩ : ∃ y : World, y = wc := ⟨_, rfl⟩
  clear hcut HX4 HX34 HM34 R9 HT HT2 G4 GC
  go_wp2
  go_loopw [141] (fun i wr => ∃ k : Nat, k ≤ ms.length ∧ i = .int .i64 k ∧ Grow w wr ∧ ∀ m ∈ ms.take k, wrongM m = 0) (fun i _ => ms.length - (intOf i).toNat)
  case atStart => exact ⟨0, by omega, rfl, G5.out, by simp⟩
  case round =>
    obtain ⟨k, hk', rfl, hb, hE⟩ := hrel
    have HB := Lib.hid hb
    have HE := Lib.hid hE
    by_cases hlt : k < ms.length
    · obtain ⟨b, o, vp, rfl, c0, c1, c2, c3, i0, i1, i2, hP⟩ := Mss.at_ mel k hlt
      obtain ⟨ap, cp, rfl, -⟩ := id hP
      have HW := Lib.hid (fun (W : World) (hW : Grow w W) => ref_wrong (m := ms[k]) W ⟨_, rfl, _, rfl, i0, i1, i2, hP.mono hW.sub⟩)
      replace c0 := hb.sub _ _ c0
      replace c1 := hb.sub _ _ c1
      replace c2 := hb.sub _ _ c2
      replace c3 := hb.sub _ _ c3
      have HTN := Lib.hid (take_next hlt)
      clear hP i0 i1 i2 mel hb hE
      generalize ms[k] = m at *
      have q9 : wr.heap.size < (wr.alloc (.cells #[.int .i64 m.kind, .int .i64 m.deed, .int .i64 m.house, .slice ap m.parts.length cp] 39)).heap.size := by simp
      go_wp2_with fail
      refine (HW.out _ (HB.out.alloc _)).mono ?_
      rintro e w2 ⟨rfl, hb2⟩
      have G2 := Lib.hid ((HB.out.alloc _).trans hb2)
      clear hb2 c0 c1 c2 c3 q9
      by_cases hw : wrongM m = 0
      · have hbw : (wrongM m != 0) = false := by simp [hw]
        have HW0 := Lib.hid hw
        clear hw
        go_wp2
        go_roundw
        case rel =>
          refine ⟨k + 1, by omega, by go_num, G2.out, fun y hy => ?_⟩
          rw [HTN.out] at hy
          rcases List.mem_append.1 hy with hy | hy
          · exact HE.out y hy
          · rw [List.mem_singleton.1 hy]; exact HW0.out
        case measure => simp [intOf]; omega
      · have hbw : (wrongM m != 0) = true := by simp [hw]
        clear hw
        go_wp2
        go_ret
        exact ⟨rfl, G2.out⟩
    · have hall : ∀ m ∈ ms, wrongM m = 0 := by rw [List.take_of_length_le (by omega)] at hE; exact hE
      have HSD := Lib.hid (fun (W : World) (hW : Grow w W) => net_send W (HV.out.mono hW.sub) (HM.out.mono hW.sub) hall (by omega) HPP.out)
      have HSR := Lib.hid (fun (W : World) (hW : Grow w W) => ref_send W (HV.out.mono hW.sub) (HM.out.mono hW.sub) hall (by omega))
      clear mel hb hE hall
      go_wp2_with fail
      refine (HSD.out _ HB.out).mono ?_
      rintro e w2 ⟨v2, rfl, hown, hb2⟩
      have HX2 := Lib.hid (hown.sl (by decide) (fr_sub _ _ _))
      obtain ⟨a2, c2, rfl⟩ := hown.form
      have G2 := Lib.hid (HB.out.trans hb2)
      clear hown hb2
      go_wp2_with fail
      refine (HSR.out _ G2.out).mono ?_
      rintro e w3 ⟨v3, rfl, hx3, hb3⟩
      obtain ⟨a3, c3, rfl, -⟩ := id hx3
      have HX3 := Lib.hid hx3
      have G3 := Lib.hid hb3
      clear hx3 hb3
      go_wp2_with fail
      refine (ref_sameNet _ (HX2.out.mono G3.out.sub) HX3.out).mono ?_
      rintro e w4 ⟨rfl, hb4⟩
      rw [decide_eq_true rfl]
      have G4 := Lib.hid (G2.out.trans (G3.out.trans hb4))
      clear hb4
      go_wp2
      go_ret
      exact ⟨rfl, G4.out⟩
end Go.Proofs.Ytgbhpghgohggcaa

/- From the form's reading of an argument to plain readings of cells. -/
namespace Go.Proofs.Ytgbhpghgohggcaa
open Go.RowKit Go.ChangeShapes Go.WideShapes Go.ChangeAt

def Reads {α : Type} (P : Program) (t : TypeId) (T : Ty α) : Prop := ∀ (H : Type) (enc : TypeId × Value → H) (W : World) (fuel : Nat) (cs : List Value) (x : DataW H × List MemPlace),
  DataW.trod enc P W 0 (fun _ => true) true fuel t cs = some x → ∃ y, T.R W.cell? cs y
theorem reads_int {P : Program} {t : TypeId} (ht : P.underlying t = some (.int .i64)) : Reads P t Ty.int := by
  intro H enc W fuel cs x h
  obtain ⟨n, rfl, _, hw⟩ := DataW.trod_int ht h
  exact ⟨n, rfl, hw⟩
theorem reads_sl {α : Type} {P : Program} {t e : TypeId} {T : Ty α} (hR : Reads P e T) (ht : P.underlying t = some (.slice e)) (hc : P.cellsOf e = T.size) (h0 : 0 < T.size) : Reads P t T.sl := by
  intro H enc W fuel cs x h
  rcases Deep.open_slice ht h with ⟨rfl, _⟩ | ⟨a, len, cap, m, n, D, Pl, rfl, _, hl, hm, hmm, hxe, hx⟩
  · exact ⟨[], _, rfl, none, 0, rfl, Nat.le_refl _, Nat.zero_le _, fun _ => rfl, fun i x e => by simp at e⟩
  · simp only [if_true] at hmm
    subst m
    have h2 : ∀ i, i < len → ∃ (p : List Value × α), T.R W.cell? p.1 p.2 ∧ W.cells? 0 (a.add (i * T.size)) T.size = some p.1 := by
      intro i hi
      obtain ⟨cs', h1, h2⟩ := hx i (by omega)
      obtain ⟨y, hy⟩ := hR H enc W n cs' _ h2
      rw [hc] at h1
      exact ⟨(cs', y), hy, h1⟩
    have h3 : ∃ l : List α, l.length = len ∧ ∀ i y, l[i]? = some y → ∃ cs', T.R W.cell? cs' y ∧ W.cells? 0 (a.add (i * T.size)) T.size = some cs' := by
      clear hx hl h hxe
      induction len with
      | zero => exact ⟨[], rfl, by simp⟩
      | succ len ih =>
        obtain ⟨l, hl, hi⟩ := ih (by intro i hi; exact h2 i (by omega))
        obtain ⟨⟨cs', y⟩, hy, h1⟩ := h2 len (by omega)
        refine ⟨l ++ [y], by simp [hl], fun i z hz => ?_⟩
        rcases Nat.lt_or_ge i l.length with hlt | hge
        · rw [List.getElem?_append_left hlt] at hz; exact hi i z hz
        · have hb := (List.getElem?_eq_some_iff.1 hz).1
          simp at hb
          obtain rfl : i = len := by omega
          rw [List.getElem?_append_right hge, hl] at hz
          simp at hz
          subst hz
          exact ⟨cs', hy, h1⟩
    obtain ⟨l, hlen, hl2⟩ := h3
    refine ⟨l, _, rfl, some a, cap, by rw [hlen], by omega, hm, by simp, fun i y hy => ?_⟩
    obtain ⟨cs', hR', hcs⟩ := hl2 i y hy
    obtain ⟨_, hlen', hat⟩ := World.cells?_some hcs
    have hpos : 0 < l.length := by have := (List.getElem?_eq_some_iff.1 hy).1; omega
    obtain ⟨cs0, _, hcs0⟩ := hl2 0 l[0] (List.getElem?_eq_getElem hpos)
    obtain ⟨_, hlen0, hat0⟩ := World.cells?_some hcs0
    have hfirst := hat0 0 h0
    rw [List.getElem?_eq_getElem (by omega)] at hfirst
    have hsp := World.cell?_spot hfirst
    obtain ⟨b, o, s⟩ := a
    have hs : s = none := by simpa [Addr.add] using hsp
    subst hs
    refine ⟨b, o, cs', rfl, hR', fun j u hu => ?_⟩
    have hj : j < T.size := by rw [← hlen']; exact (List.getElem?_eq_some_iff.1 hu).1
    have := hat j hj
    rw [Addr.add_lit, Addr.add_lit, hu] at this
    exact this
/-- a struct's fields: type, place, cells -/
def structOf (P : Program) (t : TypeId) : Option (List (TypeId × Nat × Nat)) :=
  match P.underlying t with
  | some (.struct fs) => some (fs.toList.map fun f => (f.type, f.offset, P.cellsOf f.type))
  | _ => none
theorem struct_fields {P : Program} {t : TypeId} {fs' : List (TypeId × Nat × Nat)} (hs : structOf P t = some fs') {H : Type} {enc : TypeId × Value → H} {W : World} {fuel : Nat} {cs : List Value} {x : DataW H × List MemPlace}
    (h : DataW.trod enc P W 0 (fun _ => true) true fuel t cs = some x) : cs.length = P.cellsOf t ∧ ∀ (i : Nat) (f : TypeId × Nat × Nat), fs'[i]? = some f → ∃ n y, DataW.trod enc P W 0 (fun _ => true) true n f.1 ((cs.drop f.2.1).take f.2.2) = some y := by
  unfold structOf at hs
  split at hs
  · rename_i fs hu
    obtain rfl := Option.some.inj hs
    obtain ⟨xs, n, _, _, hl, hlen, hf⟩ := DataW.trod_struct hu h
    refine ⟨hl, fun i f hi => ?_⟩
    rw [List.getElem?_map] at hi
    cases hfi : fs.toList[i]? with
    | none => rw [hfi] at hi; cases hi
    | some fd =>
      rw [hfi] at hi
      obtain rfl := Option.some.inj hi
      have hfi' : fs[i]? = some fd := by simpa using hfi
      have hlt : i < xs.length := by rw [hlen]; exact (Array.getElem?_eq_some_iff.1 hfi').1
      have := hf i fd hfi'
      rw [List.getElem?_eq_getElem hlt] at this
      exact ⟨n, _, this⟩
  · cases hs
theorem reads_pt : Reads Try.prog 32 Ty.pt := by
  intro H enc W fuel cs x h
  obtain ⟨hl, hf⟩ := struct_fields (fs' := [(3, 0, 1), (3, 1, 1), (3, 2, 1)]) (by kernel_rfl) h
  rw [show (Try.prog).cellsOf 32 = 3 by kernel_rfl] at hl
  match cs, hl with
  | [a, b, c], _ =>
    obtain ⟨_, _, h0⟩ := hf 0 _ rfl
    obtain ⟨_, _, h1⟩ := hf 1 _ rfl
    obtain ⟨_, _, h2⟩ := hf 2 _ rfl
    obtain ⟨x0, e0, w0⟩ := reads_int (by kernel_rfl) _ _ _ _ _ _ h0
    obtain ⟨x1, e1, w1⟩ := reads_int (by kernel_rfl) _ _ _ _ _ _ h1
    obtain ⟨x2, e2, w2⟩ := reads_int (by kernel_rfl) _ _ _ _ _ _ h2
    refine ⟨⟨x0, x1, x2⟩, ?_, w0, w1, w2⟩
    simp at e0 e1 e2
    subst e0 e1 e2
    rfl
theorem reads_pts : Reads Try.prog 23 Ty.pts := reads_sl reads_pt (by kernel_rfl) (by kernel_rfl) (by decide)
theorem reads_ints : Reads Try.prog 27 (Ty.sl Ty.int) := reads_sl (reads_int (t := 3) (by kernel_rfl)) (by kernel_rfl) (by kernel_rfl) (by decide)
theorem reads_rc : Reads Try.prog 48 Ty.rc := by
  intro H enc W fuel cs x h
  obtain ⟨hl, hf⟩ := struct_fields (fs' := [(3, 0, 1), (3, 1, 1), (23, 2, 1)]) (by kernel_rfl) h
  rw [show (Try.prog).cellsOf 48 = 3 by kernel_rfl] at hl
  match cs, hl with
  | [a, b, c], _ =>
    obtain ⟨_, _, h0⟩ := hf 0 _ rfl
    obtain ⟨_, _, h1⟩ := hf 1 _ rfl
    obtain ⟨_, _, h2⟩ := hf 2 _ rfl
    obtain ⟨x0, e0, w0⟩ := reads_int (by kernel_rfl) _ _ _ _ _ _ h0
    obtain ⟨x1, e1, w1⟩ := reads_int (by kernel_rfl) _ _ _ _ _ _ h1
    obtain ⟨x2, v2, e2, w2⟩ := reads_pts _ _ _ _ _ _ h2
    refine ⟨⟨x0, x1, x2⟩, v2, ?_, w0, w1, w2⟩
    simp at e0 e1 e2
    subst e0 e1 e2
    rfl
theorem reads_rcs : Reads Try.prog 22 (Ty.sl Ty.rc) := reads_sl reads_rc (by kernel_rfl) (by kernel_rfl) (by decide)
theorem reads_rd : Reads Try.prog 45 Ty.rd := by
  intro H enc W fuel cs x h
  obtain ⟨hl, hf⟩ := struct_fields (fs' := [(3, 0, 1), (23, 1, 1)]) (by kernel_rfl) h
  rw [show (Try.prog).cellsOf 45 = 2 by kernel_rfl] at hl
  match cs, hl with
  | [a, b], _ =>
    obtain ⟨_, _, h0⟩ := hf 0 _ rfl
    obtain ⟨_, _, h1⟩ := hf 1 _ rfl
    obtain ⟨x0, e0, w0⟩ := reads_int (by kernel_rfl) _ _ _ _ _ _ h0
    obtain ⟨x2, v2, e2, w2⟩ := reads_pts _ _ _ _ _ _ h1
    refine ⟨⟨x0, x2⟩, v2, ?_, w0, w2⟩
    simp at e0 e2
    subst e0 e2
    rfl
theorem reads_ms : Reads Try.prog 39 Ty.ms := by
  intro H enc W fuel cs x h
  obtain ⟨hl, hf⟩ := struct_fields (fs' := [(3, 0, 1), (3, 1, 1), (3, 2, 1), (23, 3, 1)]) (by kernel_rfl) h
  rw [show (Try.prog).cellsOf 39 = 4 by kernel_rfl] at hl
  match cs, hl with
  | [a, b, c, d], _ =>
    obtain ⟨_, _, h0⟩ := hf 0 _ rfl
    obtain ⟨_, _, h1⟩ := hf 1 _ rfl
    obtain ⟨_, _, h2⟩ := hf 2 _ rfl
    obtain ⟨_, _, h3⟩ := hf 3 _ rfl
    obtain ⟨x0, e0, w0⟩ := reads_int (by kernel_rfl) _ _ _ _ _ _ h0
    obtain ⟨x1, e1, w1⟩ := reads_int (by kernel_rfl) _ _ _ _ _ _ h1
    obtain ⟨x2, e2, w2⟩ := reads_int (by kernel_rfl) _ _ _ _ _ _ h2
    obtain ⟨x3, v3, e3, w3⟩ := reads_pts _ _ _ _ _ _ h3
    refine ⟨⟨x0, x1, x2, x3⟩, v3, ?_, w0, w1, w2, w3⟩
    simp at e0 e1 e2 e3
    subst e0 e1 e2 e3
    rfl
theorem reads_mss : Reads Try.prog 36 (Ty.sl Ty.ms) := reads_sl reads_ms (by kernel_rfl) (by kernel_rfl) (by decide)
/-- an argument that is a slice -/
theorem arg_sl {α : Type} {P : Program} {t e : TypeId} {T : Ty α} (hR : Reads P t T.sl) (ht : P.underlying t = some (.slice e)) {H : Type} {enc : TypeId × Value → H} {W : World} {r : Reach} {b : Nat} {v : Value} {d : DataW H} {p : List MemPlace}
    (hval : Value.okWide P W r b t v) (h : DataW.Trod enc P W 0 (fun _ => true) true t v d p) : ∃ l, Sl T W.cell? v l := by
  obtain ⟨a, len, cap, rfl⟩ := okWide_slice ht hval
  obtain ⟨fuel, hf⟩ := h
  obtain ⟨l, v, e, hv⟩ := hR _ _ _ _ _ _ hf
  simp [Value.cells] at e
  subst e
  exact ⟨l, hv⟩
theorem own : ownKnob (Try.prog).godebug = none := by kernel_rfl
theorem laidOut : laidOutB Try.prog = true := by kernel_rfl
end Go.Proofs.Ytgbhpghgohggcaa

/- More readings of the form's arguments; how large they are. -/
namespace Go.Proofs.Ytgbhpghgohggcaa
open Go.RowKit Go.ChangeShapes Go.WideShapes Go.ChangeAt
theorem sl_len {α : Type} {T : Ty α} {c : CM} {a : Option Addr} {n cap : Nat} {l : List α} (h : Sl T c (.slice a n cap) l) : l.length = n := by
  obtain ⟨a', cap', he, _⟩ := h
  simp only [Value.slice.injEq] at he
  exact he.2.1.symm
/-- an argument that is a slice: it takes no more bytes than a process has -/
theorem arg_size {α : Type} {P : Program} {t e : TypeId} {T : Ty α} {k : Nat} (ht : P.underlying t = some (.slice e)) (hb : P.bytesOf e = k) {H : Type} {enc : TypeId × Value → H} {W : World} {r : Reach} {b : Nat} {v : Value} {d : DataW H} {p : List MemPlace} {ts : List TypeId} {ds : List (DataW H)} {j : Nat}
    (hsz : (DataW.weightsEach P ts ds).all (· ≤ reachBytes) = true) (hj : ts[j]? = some t) (hd : ds[j]? = some d)
    (hval : Value.okWide P W r b t v) (h : DataW.Trod enc P W 0 (fun _ => true) true t v d p) {l : List α} (hl : Sl T W.cell? v l) : l.length * k ≤ 140737488351232 := by
  obtain ⟨a, len, cap, rfl⟩ := okWide_slice ht hval
  obtain ⟨fuel, hf⟩ := h
  have hll := sl_len hl
  rcases Deep.open_slice ht hf with ⟨he, _⟩ | ⟨a', len', cap', m, n, D, Pl, he, _, hlc, _, hmm, hxe, _⟩
  · simp [Value.cells] at he
    rw [hll, he.2.1]; simp
  · simp [Value.cells] at he
    obtain ⟨_, rfl, rfl⟩ := he
    obtain rfl : d = .slice ((List.range len).map D) ((List.range (m - len)).map fun j => D (len + j)) := by simpa using congrArg Prod.fst hxe
    have := sized_slice hsz hj hd ht
    rw [hb, List.length_map, List.length_range] at this
    rw [hll]
    have h2 : len * k ≤ (len + ((List.range (m - len)).map fun j => D (len + j)).length) * k := Nat.mul_le_mul_right _ (Nat.le_add_right _ _)
    have h3 : reachBytes = 140737488351232 := rfl
    omega
/-- an argument that is a struct by value -/
theorem arg_of {α : Type} {P : Program} {t : TypeId} {fs : Array Field} {T : Ty α} (hR : Reads P t T) (ht : P.underlying t = some (.struct fs)) {H : Type} {enc : TypeId × Value → H} {W : World} {r : Reach} {b : Nat} {v : Value} {d : DataW H} {p : List MemPlace}
    (hval : Value.okWide P W r b t v) (h : DataW.Trod enc P W 0 (fun _ => true) true t v d p) : ∃ x, Of T W.cell? v x := by
  obtain ⟨cs, rfl, _⟩ := okWide_struct ht hval
  obtain ⟨fuel, hf⟩ := h
  obtain ⟨x, hx⟩ := hR _ _ _ _ _ _ hf
  exact ⟨x, cs.toList, rfl, hx⟩
theorem reads_st : Reads Try.prog 164 Ty.st := by
  intro H enc W fuel cs x h
  obtain ⟨hl, hf⟩ := struct_fields (fs' := [(3, 0, 1), (3, 1, 1), (23, 2, 1)]) (by kernel_rfl) h
  rw [show (Try.prog).cellsOf 164 = 3 by kernel_rfl] at hl
  match cs, hl with
  | [a, b, c], _ =>
    obtain ⟨_, _, h0⟩ := hf 0 _ rfl
    obtain ⟨_, _, h1⟩ := hf 1 _ rfl
    obtain ⟨_, _, h2⟩ := hf 2 _ rfl
    obtain ⟨x0, e0, w0⟩ := reads_int (by kernel_rfl) _ _ _ _ _ _ h0
    obtain ⟨x1, e1, w1⟩ := reads_int (by kernel_rfl) _ _ _ _ _ _ h1
    obtain ⟨x2, v2, e2, w2⟩ := reads_pts _ _ _ _ _ _ h2
    refine ⟨⟨x0, x1, x2⟩, v2, ?_, w0, w1, w2⟩
    simp at e0 e1 e2
    subst e0 e1 e2
    rfl
theorem reads_sts : Reads Try.prog 90 (Ty.sl Ty.st) := reads_sl reads_st (by kernel_rfl) (by kernel_rfl) (by decide)
theorem reads_rds : Reads Try.prog 26 (Ty.sl Ty.rd) := reads_sl reads_rd (by kernel_rfl) (by kernel_rfl) (by decide)
theorem reads_byte : Reads Try.prog 5 Ty.byte := by
  intro H enc W fuel cs x h
  obtain ⟨n, rfl, _, hw⟩ := DataW.trod_int (k := .u8) (by kernel_rfl) h
  have hw2 : 0 ≤ n ∧ n < 256 := by
    have h2 : (Lit.int .u8 n).wf = true := hw
    have h3 : IntKind.u8.min ≤ n ∧ n ≤ IntKind.u8.max := by simpa [Lit.wf] using h2
    have h4 : IntKind.u8.min = 0 := by decide
    have h5 : IntKind.u8.max = 255 := by decide
    omega
  refine ⟨UInt8.ofNat n.toNat, ?_⟩
  show [Value.int .u8 n] = byteCell _
  unfold byteCell
  have : ((UInt8.ofNat n.toNat).toNat : Int) = n := by
    rw [UInt8.toNat_ofNat']
    omega
  rw [this]
theorem reads_bts : Reads Try.prog 69 Ty.bts := reads_sl reads_byte (by kernel_rfl) (by kernel_rfl) (by decide)
theorem reads_nets : Reads Try.prog 79 (Ty.sl Ty.bts) := reads_sl reads_bts (by kernel_rfl) (by kernel_rfl) (by decide)
end Go.Proofs.Ytgbhpghgohggcaa

/- Readings of the form's arguments that are arrays of ints. -/
namespace Go.Proofs.Ytgbhpghgohggcaa
open Go.RowKit Go.ChangeShapes Go.WideShapes Go.ChangeAt
theorem okWide_arr {P : Program} {t e : TypeId} {n : Nat} {w : World} {r : Reach} {b : Nat} {v : Value} (ht : P.underlying t = some (.array n e)) (h : Value.okWide P w r b t v) : ∃ cs, v = .agg cs ∧ cs.size = P.cellsOf t := by
  simp only [Value.okWide, ht] at h
  obtain ⟨cs, h1, h2, _⟩ := h
  exact ⟨cs, h1, h2⟩
/-- an argument that is an array by value -/
theorem arg_arr {α : Type} {P : Program} {t e : TypeId} {n : Nat} {T : Ty α} (hR : Reads P t T) (ht : P.underlying t = some (.array n e)) {H : Type} {enc : TypeId × Value → H} {W : World} {r : Reach} {b : Nat} {v : Value} {d : DataW H} {p : List MemPlace}
    (hval : Value.okWide P W r b t v) (h : DataW.Trod enc P W 0 (fun _ => true) true t v d p) : ∃ x, Of T W.cell? v x := by
  obtain ⟨cs, rfl, _⟩ := okWide_arr ht hval
  obtain ⟨fuel, hf⟩ := h
  obtain ⟨x, hx⟩ := hR _ _ _ _ _ _ hf
  exact ⟨x, cs.toList, rfl, hx⟩
theorem reads_sm : Reads Try.prog 25 Ty.sm := by
  intro H enc W fuel cs x h
  obtain ⟨xs, m, _, _, hl, hx, hf⟩ := DataW.trod_array (n := 4) (e := 3) (by kernel_rfl) h
  rw [show (Try.prog).cellsOf 25 = 4 by kernel_rfl] at hl
  rw [show (Try.prog).cellsOf 3 = 1 by kernel_rfl] at hf
  match cs, hl with
  | [a, b, c, d], _ =>
    have g : ∀ i, i < 4 → ∃ y, DataW.trod enc Try.prog W 0 (fun _ => true) true m 3 (([a, b, c, d].drop (i * 1)).take 1) = some y := fun i hi => by
      rw [hf i hi]; exact ⟨xs[i]'(by omega), List.getElem?_eq_getElem (by omega)⟩
    obtain ⟨_, h0⟩ := g 0 (by decide)
    obtain ⟨_, h1⟩ := g 1 (by decide)
    obtain ⟨_, h2⟩ := g 2 (by decide)
    obtain ⟨_, h3⟩ := g 3 (by decide)
    obtain ⟨x0, e0, w0⟩ := reads_int (by kernel_rfl) _ _ _ _ _ _ h0
    obtain ⟨x1, e1, w1⟩ := reads_int (by kernel_rfl) _ _ _ _ _ _ h1
    obtain ⟨x2, e2, w2⟩ := reads_int (by kernel_rfl) _ _ _ _ _ _ h2
    obtain ⟨x3, e3, w3⟩ := reads_int (by kernel_rfl) _ _ _ _ _ _ h3
    refine ⟨⟨x0, x1, x2, x3⟩, ?_, w0, w1, w2, w3⟩
    simp at e0 e1 e2 e3
    subst e0 e1 e2 e3
    rfl
theorem reads_sms : Reads Try.prog 98 (Ty.sl Ty.sm) := reads_sl reads_sm (by kernel_rfl) (by kernel_rfl) (by decide)
end Go.Proofs.Ytgbhpghgohggcaa

/- How large the inner slices of an argument are. -/
namespace Go.Proofs.Ytgbhpghgohggcaa
open Go.RowKit Go.ChangeShapes Go.WideShapes Go.ChangeAt
theorem weightsAll_mem {H : Type} {P : Program} {e : TypeId} {D : DataW H} {w : Nat} (hw : w ∈ D.weights P e) : ∀ {elems : List (DataW H)}, D ∈ elems → w ∈ DataW.weightsAll P e elems
  | [], h => by simp at h
  | x :: r, h => by
    rw [DataW.weightsAll]
    rcases List.mem_cons.1 h with rfl | h
    · exact List.mem_append_left _ hw
    · exact List.mem_append_right _ (weightsAll_mem hw h)
theorem arg_inner {α : Type} {P : Program} {t e e2 : TypeId} {T : Ty α} {k : Nat} (ht : P.underlying t = some (.slice e)) (he : P.underlying e = some (.slice e2)) (hc : P.cellsOf e = 1) (hb : P.bytesOf e2 = k) {H : Type} {enc : TypeId × Value → H} {W : World} {r : Reach} {b : Nat} {v : Value} {d : DataW H} {p : List MemPlace} {ts : List TypeId} {ds : List (DataW H)} {j : Nat}
    (hsz : (DataW.weightsEach P ts ds).all (· ≤ reachBytes) = true) (hj : ts[j]? = some t) (hd : ds[j]? = some d)
    (hval : Value.okWide P W r b t v) (h : DataW.Trod enc P W 0 (fun _ => true) true t v d p) {l : List (List α)} (hl : Sl (Ty.sl T) W.cell? v l) : ∀ x ∈ l, x.length * k ≤ 140737488351232 := by
  obtain ⟨a, len, cap, rfl⟩ := okWide_slice ht hval
  obtain ⟨fuel, hf⟩ := h
  have hll := sl_len hl
  intro x hx
  obtain ⟨i, hi⟩ := List.mem_iff_getElem?.1 hx
  have hil := (List.getElem?_eq_some_iff.1 hi).1
  rcases Deep.open_slice1 ht hc hf with ⟨he', _⟩ | ⟨a', len', cap', m, n, V, D, Pl, he', _, hlc, _, hmm, hxe, hcell⟩
  · simp [Value.cells] at he'
    omega
  · simp [Value.cells] at he'
    obtain ⟨rfl, rfl, rfl⟩ := he'
    simp only [if_true] at hmm
    subst hmm
    obtain ⟨h1, h2⟩ := hcell i (by omega)
    obtain ⟨a1, cap1, hv1, -, -, -, hel⟩ := hl
    simp only [Value.slice.injEq] at hv1
    obtain ⟨rfl, -, -⟩ := hv1
    obtain ⟨b', o', cs, ha, ⟨v', rfl, hS⟩, hA⟩ := hel i x hi
    obtain rfl := Option.some.inj ha
    have h3 := hA 0 v' rfl
    have e1 : (⟨b', o', none⟩ : Addr).add i = ⟨b', o' + i * (Ty.sl T).size + 0, none⟩ := by rw [Addr.add_lit]; simp [Ty.sl]
    rw [← e1, h1] at h3
    obtain rfl := Option.some.inj h3
    have hdd := congrArg Prod.fst hxe
    simp only at hdd
    obtain ⟨a2, cap2, hv2, -, -, -, -⟩ := hS
    rcases Deep.open_slice he h2 with ⟨h4, _⟩ | ⟨a3, len3, cap3, m3, n3, D3, Pl3, h4, _, hl3, _, hm3, hx3, _⟩
    · simp only [List.cons.injEq, and_true] at h4
      rw [h4] at hv2
      simp only [Value.slice.injEq] at hv2
      rw [← hv2.2.1]; simp
    · simp only [List.cons.injEq, and_true] at h4
      rw [h4] at hv2
      simp only [Value.slice.injEq] at hv2
      have hD : D i = .slice ((List.range len3).map D3) ((List.range (m3 - len3)).map fun j => D3 (len3 + j)) := by simpa using congrArg Prod.fst hx3
      have hw : (((List.range len3).map D3).length + ((List.range (m3 - len3)).map fun j => D3 (len3 + j)).length) * P.bytesOf e2 ∈ (D i).weights P e := by rw [hD]; simp [DataW.weights, he]
      have hin : D i ∈ (List.range len).map D := List.mem_map.2 ⟨i, List.mem_range.2 (by omega), rfl⟩
      have hw2 := weightsAll_mem hw hin
      have hw3 : (((List.range len3).map D3).length + ((List.range (m3 - len3)).map fun j => D3 (len3 + j)).length) * P.bytesOf e2 ∈ d.weights P t := by
        rw [hdd]
        simp only [DataW.weights, ht]
        exact List.mem_cons_of_mem _ (List.mem_append_left _ hw2)
      have h9 := List.all_eq_true.1 hsz _ (DataW.weights_mem_each hj hd _ hw3)
      rw [decide_eq_true_eq, hb, List.length_map, List.length_range] at h9
      have h8 : len3 * k ≤ (len3 + ((List.range (m3 - len3)).map fun j => D3 (len3 + j)).length) * k := Nat.mul_le_mul_right _ (Nat.le_add_right _ _)
      have h7 : reachBytes = 140737488351232 := rfl
      rw [← hv2.2.1]
      omega
end Go.Proofs.Ytgbhpghgohggcaa
