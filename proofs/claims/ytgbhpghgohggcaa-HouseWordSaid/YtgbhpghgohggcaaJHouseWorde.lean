/- The parts that HouseWord is proved of, joined: K11, Trod, Trod2. No condition beside those that each theorem names. -/
import Derived.Deep.Slices
import Derived.OpenShut
import Derived.Below
import Derived.ChangeOld
import Derived.ProofKit
import Derived.SizedLaws
import Derived.Test.YtgbhpghgohggcaaJHouseWordd
/- The law HouseWord, walked. -/
namespace Go.Proofs.Ytgbhpghgohggcaa
open Go.RowKit
theorem win_wo {lo hi B : Nat} {w : World} (h : B < lo ∨ hi ≤ B) : Sub (win lo hi w) (wo B w.cell?) := fun a v e => by
  unfold win at e
  split at e
  · unfold wo
    rw [if_neg (by omega)]; exact e
  · cases e
theorem hearM_one (h : Hs) (me : Int) {m : Ms} (hm : Made h) (h1 : m.kind = 1) : hearM h me m = [] ∨ ∃ y, hearM h me m = [y] ∧ (y.kind = 2 → Kept (hearH h m) m.deed) := by
  have hc : hearM h me m = [] ∨ ∃ y, hearM h me m = [y] := by
    unfold hearM
    rw [if_pos h1]
    split
    · exact .inl rfl
    · split
      · exact .inr ⟨_, rfl⟩
      · exact .inr ⟨_, rfl⟩
  rcases hc with h0 | ⟨y, hy⟩
  · exact .inl h0
  · exact .inr ⟨y, hy, fun h2 => kept_yes hm h1 hy h2⟩
set_option maxRecDepth 100000 in
set_option maxHeartbeats 16000000 in
theorem houseWord_walk {v vm vs : Value} {l : List Rc} {m : Ms} {ms : List Ms} (w : World) (hv : Rcs w.cell? v l) (_hs : l.length * 40 ≤ 140737488351232) (hm : Of Ty.ms w.cell? vm m) (hvs : Sl Ty.ms w.cell? vs ms) (hsm : ms.length * 48 ≤ 140737488351232) :
    Calls Try.prog 11 #[v, vm, vs] w fun e w' => e = .returned (.bool true) ∧ Grow w w' := by
  have HRT := Lib.hid (fun (W : World) (hW : Grow w W) => law7_right W (hv.mono hW.sub) (hm.mono hW.sub))
  have HV := Lib.hid hv
  have HM := Lib.hid hm
  have HSM := Lib.hid hsm
  obtain ⟨ap, cp, rfl⟩ := hm.ms_form
  obtain ⟨al, cl, rfl, -⟩ := hv
  obtain ⟨asl, csl, rfl, h1, h2, -, hel⟩ := hvs
  unfold maxLen at h2
  have HAL := Lib.hid (alive7 (w.alloc (.cells #[.int .i64 m.kind, .int .i64 m.deed, .int .i64 m.house, .slice ap m.parts.length cp] 39)))
  clear hm hsm
  cases hok : right7E l m with
  | false =>
    have HOK := Lib.hid hok
    go_enter Try.func11, Try.ntmps11
    go_wp2_with fail
    refine HAL.out.mono ?_
    rintro e w1 ⟨rfl, hb1⟩
    have R3_1 := Lib.hid (row_grow (row_new w (.cells #[.int .i64 m.kind, .int .i64 m.deed, .int .i64 m.house, .slice ap m.parts.length cp] 39)) hb1)
    have HB1 := Lib.hid (((Grow.refl w).alloc (.cells #[.int .i64 m.kind, .int .i64 m.deed, .int .i64 m.house, .slice ap m.parts.length cp] 39)).trans hb1)
    clear hb1
    obtain ⟨c0, c1, c2, c3⟩ := cells4 R3_1.out
    have z3 : w.heap.size < w1.heap.size := (Array.getElem?_eq_some_iff.1 R3_1.out).1
    go_wp2_with fail
    refine (HRT.out _ HB1.out).mono ?_
    rw [HOK.out]
    rintro e w2 ⟨rfl, hb2⟩
    have R3_2 := Lib.hid (row_grow R3_1.out hb2)
    have HBW := Lib.hid (HB1.out.trans hb2)
    clear hb2 c0 c1 c2 c3 z3
    obtain ⟨c0, c1, c2, c3⟩ := cells4 R3_2.out
    have z3 : w.heap.size < w2.heap.size := (Array.getElem?_eq_some_iff.1 R3_2.out).1
    go_wp2
    go_ret
    exact ⟨rfl, HBW.out⟩
  | true =>
    have HOK := Lib.hid hok
    have h0 := right7_ok hok
    have ho := right7_house hok
    have hR := right_m.1 h0.2
    have hme : I64 m.house := (Of.ms_parts HM.out).2.2.2
    have HMD : Hid (I64 m.deed) := Lib.hid (Of.ms_parts HM.out).2.2.1
    have HD0 : Hid (0 ≤ m.deed) := Lib.hid hR.deed.1
    have HME := Lib.hid hme
    have hlen := (keys_of_right h0.1).2
    have hkl := (keys_of_right h0.1).1
    have HRH := Lib.hid (fun (W : World) (hW : Grow w W) => ref_house W (HV.out.mono hW.sub) hkl (by omega))
    by_cases hk1 : m.kind = 1
    · skip
      have hpos : 0 < m.parts.length := (wrong_ok (hR.parts hk1).1).1
      have HONE := Lib.hid (hearM_one (houseR l) m.house ho.made hk1)
      have HO2 := Lib.hid (ho.hear hR)
      have HHE := Lib.hid (fun (vh : Value) (W : World) (hW : Grow w W) (hh : Of Ty.hs W.cell? vh (houseR l)) => house_hear W hh (HM.out.mono hW.sub) ho.keys hR.keys (by have := ho.len; omega) (fun x hx => by have := ho.small x hx; omega) (by have := hR.len'; omega) hme ho.made)
      obtain ⟨ap', cp', hpe, p1, p2, -, hpel⟩ := (Of.ms_parts HM.out).1
      simp only [Value.slice.injEq, true_and] at hpe
      obtain ⟨rfl, rfl⟩ := hpe
      obtain ⟨bp, op, rfl, -, hpk, -⟩ := Pts.at_ hpel 0 hpos
      have HP0 : Hid (w.cell? ⟨bp, op + 1, none⟩ = some (.int .i64 m.parts[0].k)) := Lib.hid (by simpa using hpk)
      generalize m.parts[0] = p0 at *
      clear hpk hpel p1 p2
      have hb1 : (m.kind != 1) = false := by simp [hk1]
      clear hok h0 ho hR hme hlen hkl hk1
      generalize houseR l = h at *
      generalize hearM h m.house m = a' at *
      generalize hearH h m = h' at *
      go_enter Try.func11, Try.ntmps11
      go_wp2_with fail
      refine HAL.out.mono ?_
      rintro e w1 ⟨rfl, hb1⟩
      have R3_1 := Lib.hid (row_grow (row_new w (.cells #[.int .i64 m.kind, .int .i64 m.deed, .int .i64 m.house, .slice (some ⟨bp, op, none⟩) m.parts.length cp] 39)) hb1)
      have HB1 := Lib.hid (((Grow.refl w).alloc (.cells #[.int .i64 m.kind, .int .i64 m.deed, .int .i64 m.house, .slice (some ⟨bp, op, none⟩) m.parts.length cp] 39)).trans hb1)
      clear hb1
      obtain ⟨c0, c1, c2, c3⟩ := cells4 R3_1.out
      have z3 : w.heap.size < w1.heap.size := (Array.getElem?_eq_some_iff.1 R3_1.out).1
      go_wp2_with fail
      refine (HRT.out _ HB1.out).mono ?_
      rw [HOK.out]
      rintro e w2 ⟨rfl, hb2⟩
      have R3_2 := Lib.hid (row_grow R3_1.out hb2)
      have HBW := Lib.hid (HB1.out.trans hb2)
      clear hb2 c0 c1 c2 c3 z3
      obtain ⟨c0, c1, c2, c3⟩ := cells4 R3_2.out
      have z3 : w.heap.size < w2.heap.size := (Array.getElem?_eq_some_iff.1 R3_2.out).1
      have HS : Hid (∀ W, Grow w2 W → W.cell? ⟨w.heap.size, 0, none⟩ = some (.int .i64 m.kind) ∧ W.cell? ⟨w.heap.size, 1, none⟩ = some (.int .i64 m.deed) ∧ W.cell? ⟨w.heap.size, 2, none⟩ = some (.int .i64 m.house) ∧ W.cell? ⟨w.heap.size, 3, none⟩ = some (.slice (some ⟨bp, op, none⟩) m.parts.length cp)) := fun W hW => cells4 (row_grow R3_2.out hW)
      go_wp2_with fail
      clear c0 c1 c2 c3 z3
      refine but_start (fun w' => w'.cell? ⟨w.heap.size, 0, none⟩ = some (.int .i64 m.kind) ∧ w'.cell? ⟨w.heap.size, 1, none⟩ = some (.int .i64 m.deed) ∧ w'.cell? ⟨w.heap.size, 2, none⟩ = some (.int .i64 m.house) ∧ w'.cell? ⟨w.heap.size, 3, none⟩ = some (.slice (some ⟨bp, op, none⟩) m.parts.length cp)) 11 (by kernel_rfl) ?_
      obtain ⟨wd, hWd⟩ : ∃ x : World, x = w2.drew := ⟨_, rfl⟩
      rw [← hWd]
      have GD : Grow w2 wd := by rw [hWd]; exact (Grow.refl _).drew
      have zD : w2.heap.size = wd.heap.size := by rw [hWd]; rfl
      have ZD := Lib.hid zD
      clear hWd zD
      refine but_take (i := 0) (v := ?_) 14 rfl (by kernel_rfl) (by kernel_rfl) (by kernel_rfl) (by kernel_rfl) (by kernel_rfl) (fun _ _ _ h => h) (HS.out _ GD) (Or.inl ⟨by rfl, ?_⟩) ?_
      rotate_left
      · (intro w' hSw; (try dsimp only at hSw); obtain ⟨hs0, hs1, hs2, hs3⟩ := hSw; go_simp <;> with_reducible rfl)
      try simp only [Act.put, List.getElem_toArray, List.getElem_cons_zero, List.setIfInBounds_toArray, List.set_cons_zero, List.set_cons_succ]
      refine but_take (i := 2) (v := ?_) 14 rfl (by kernel_rfl) (by kernel_rfl) (by kernel_rfl) (by kernel_rfl) (by kernel_rfl) (fun _ _ _ h => h) (HS.out _ GD) (Or.inl ⟨by rfl, ?_⟩) ?_
      rotate_left
      · (intro w' hSw; (try dsimp only at hSw); obtain ⟨hs0, hs1, hs2, hs3⟩ := hSw; go_simp <;> with_reducible rfl)
      try simp only [Act.put, List.getElem_toArray, List.getElem_cons_succ, List.getElem_cons_zero, List.setIfInBounds_toArray, List.set_cons_zero, List.set_cons_succ]
      refine but_take (i := 3) (v := ?_) 14 rfl (by kernel_rfl) (by kernel_rfl) (by kernel_rfl) (by kernel_rfl) (by kernel_rfl) (fun _ _ _ h => h) (HS.out _ GD) (Or.inl ⟨by rfl, ?_⟩) ?_
      rotate_left
      · (intro w' hSw; (try dsimp only at hSw); obtain ⟨hs0, hs1, hs2, hs3⟩ := hSw; go_simp <;> with_reducible rfl)
      try simp only [Act.put, List.getElem_toArray, List.getElem_cons_succ, List.getElem_cons_zero, List.setIfInBounds_toArray, List.set_cons_zero, List.set_cons_succ]
      refine but_take (i := 4) (v := ?_) 14 rfl (by kernel_rfl) (by kernel_rfl) (by kernel_rfl) (by kernel_rfl) (by kernel_rfl) (fun _ _ _ h => h) (HS.out _ GD) (Or.inl ⟨by rfl, ?_⟩) ?_
      rotate_left
      · (intro w' hSw; (try dsimp only at hSw); obtain ⟨hs0, hs1, hs2, hs3⟩ := hSw; go_simp <;> with_reducible rfl)
      try simp only [Act.put, List.getElem_toArray, List.getElem_cons_succ, List.getElem_cons_zero, List.setIfInBounds_toArray, List.set_cons_zero, List.set_cons_succ]
      refine but_two (i := 1) (j := 9) (by kernel_rfl) rfl rfl ?_ ?_
      · skip
        intro K HK'
        have HK := Lib.hid HK'
        clear HK'
        skip
        try simp only [List.getElem_toArray, List.getElem_cons_succ, List.getElem_cons_zero]
        go_simp
        go_at_call 29
        refine (HRH.out _ (HBW.out.trans GD)).mono ?_
        rintro e wA ⟨vh, rfl, hH, hbA⟩
        obtain ⟨hl, hk, hr, ht, hd, hu, rfl⟩ := hH.hs_form
        have HH := Lib.hid hH
        have GA := Grow.trans GD hbA
        clear hH
        refine HK.out _ _ ⟨fun _ => HS.out _ GA, ?_⟩
        clear HK K
        try simp only [Act.put, List.getElem_toArray, List.getElem_cons_succ, List.getElem_cons_zero, List.setIfInBounds_toArray, List.set_cons_zero, List.set_cons_succ]
        refine but_two (i := 5) (j := 9) (by kernel_rfl) rfl rfl ?_ ?_
        · skip
          intro K HK'
          have HK := Lib.hid HK'
          clear HK'
          skip
          try simp only [List.getElem_toArray, List.getElem_cons_succ, List.getElem_cons_zero]
          go_simp
          go_at_call 50
          refine (HHE.out _ _ (HBW.out.trans GA) (HH.out.mono (Grow.refl wA).sub)).mono ?_
          rintro e wC ⟨v1, v2, rfl, hx, ha, hbC⟩
          obtain ⟨xl, xk, xr, xt, xd, xu, rfl⟩ := hx.hs_form
          obtain ⟨aa, ca, rfl, -⟩ := id ha
          have HX0 := Lib.hid (hx.mono (win_ov _ _))
          have HA0 := Lib.hid (ha.mono (win_ov _ _))
          have GC := Grow.trans GA hbC
          clear hx ha
          refine HK.out _ _ ⟨fun _ => HS.out _ GC, ?_⟩
          clear HK K
          try simp only [Act.put, List.getElem_toArray, List.getElem_cons_succ, List.getElem_cons_zero, List.setIfInBounds_toArray, List.set_cons_zero, List.set_cons_succ]
          refine but_take (i := 6) (v := ?_) 14 rfl (by kernel_rfl) (by kernel_rfl) (by kernel_rfl) (by kernel_rfl) (by kernel_rfl) (fun _ _ _ h => h) (HS.out _ GC) (Or.inl ⟨by rfl, ?_⟩) ?_
          rotate_left
          · (intro w' hSw; (try dsimp only at hSw); obtain ⟨hs0, hs1, hs2, hs3⟩ := hSw; go_simp <;> with_reducible rfl)
          try simp only [Act.put, List.getElem_toArray, List.getElem_cons_succ, List.getElem_cons_zero, List.setIfInBounds_toArray, List.set_cons_zero, List.set_cons_succ]
          refine but_take (i := 7) (v := ?_) 14 rfl (by kernel_rfl) (by kernel_rfl) (by kernel_rfl) (by kernel_rfl) (by kernel_rfl) (fun _ _ _ h => h) (HS.out _ GC) (Or.inl ⟨by rfl, ?_⟩) ?_
          rotate_left
          · (intro w' hSw; (try dsimp only at hSw); obtain ⟨hs0, hs1, hs2, hs3⟩ := hSw; go_simp <;> with_reducible rfl)
          try simp only [Act.put, List.getElem_toArray, List.getElem_cons_succ, List.getElem_cons_zero, List.setIfInBounds_toArray, List.set_cons_zero, List.set_cons_succ]
          refine but_take (i := 8) (v := ?_) 14 rfl (by kernel_rfl) (by kernel_rfl) (by kernel_rfl) (by kernel_rfl) (by kernel_rfl) (fun _ _ _ h => h) (HS.out _ GC) (Or.inl ⟨by rfl, ?_⟩) ?_
          rotate_left
          · (intro w' hSw; (try dsimp only at hSw); obtain ⟨hs0, hs1, hs2, hs3⟩ := hSw; go_simp <;> with_reducible rfl)
          try simp only [Act.put, List.getElem_toArray, List.getElem_cons_succ, List.getElem_cons_zero, List.setIfInBounds_toArray, List.set_cons_zero, List.set_cons_succ]
          refine but_one (i := 9) (by kernel_rfl) rfl ?_
          intro K HK'
          have HK := Lib.hid HK'
          clear HK'
          skip
          try simp only [List.getElem_toArray, List.getElem_cons_succ, List.getElem_cons_zero]
          go_simp
          have RA := Lib.hid (row_new wC (.cells #[.slice none 0 0, .int .i64 0, .int .i64 0, .int .i64 0, .int .i64 0, .slice none 0 0, .slice none 0 0] 29))
          refine HK.out _ _ ⟨fun _ => HS.out _ (GC.alloc _), ?_⟩
          clear HK K
          try simp only [Act.put, List.getElem_toArray, List.getElem_cons_succ, List.getElem_cons_zero, List.setIfInBounds_toArray, List.set_cons_zero, List.set_cons_succ]
          refine but_one (i := 10) (by kernel_rfl) rfl ?_
          intro K HK'
          have HK := Lib.hid HK'
          clear HK'
          refine wanted_go rfl ?_
          try simp only [List.getElem_toArray, List.getElem_cons_succ, List.getElem_cons_zero]
          refine wp_store_row (.tmp 7) (.tmp 33) rfl rfl rfl RA.out info_hs rfl rfl ?_
          intro w7 r7 g7
          have HXO := Lib.hid (((HX0.out.mono (win_grow ((Grow.refl _).alloc _) _ _)).mono (win_set g7 (.inr (Nat.le_refl _)))).mono (win_wo (.inr (Nat.le_refl _))))
          have HXF := Lib.hid (((HX0.out.mono (win_grow ((Grow.refl _).alloc _) _ _)).mono (win_set g7 (.inr (Nat.le_refl _)))).mono (win_sub _ _ _))
          have HAF := Lib.hid (((HA0.out.mono (win_grow ((Grow.refl _).alloc _) _ _)).mono (win_set g7 (.inr (Nat.le_refl _)))).mono (win_sub _ _ _))
          have GF := Lib.hid (Grow.grown (GC.alloc _) g7 (fun k hk => by obtain rfl := Option.some.inj hk; exact GC.size))
          have HBN : Hid (w.heap.size ≤ wC.heap.size) := Lib.hid (HBW.out.trans GC).size
          have HBW2 : Hid (w.heap.size < wC.heap.size) := Lib.hid (by have := (Array.getElem?_eq_some_iff.1 R3_2.out).1; have := GC.size; omega)
          have R7 := Lib.hid r7
          clear r7 g7
          refine HK.out _ _ ⟨fun _ => HS.out _ GF.out, ?_⟩
          clear HK K
          try simp only [Act.put]
          refine but_one (i := 11) (by kernel_rfl) rfl ?_
          intro K HK'
          have HK := Lib.hid HK'
          clear HK'
          skip
          try simp only [List.getElem_toArray, List.getElem_cons_succ, List.getElem_cons_zero]
          go_simp
          refine HK.out _ _ ⟨fun h => absurd rfl h, ?_⟩
          clear HK K
          try simp only [Act.put, List.getElem_toArray, List.getElem_cons_succ, List.getElem_cons_zero, List.setIfInBounds_toArray, List.set_cons_zero, List.set_cons_succ]
          refine but_done (by kernel_rfl) ?_
          have HG7 : Hid (Grow w w7) := Lib.hid (HBW.out.trans GF.out)
          have R3_w7 := Lib.hid (row_grow R3_2.out GF.out)
          clear HH
          have HBXw7 : Hid (InBox w7 _ h' _) := Lib.hid ⟨R7.out, HXO.out⟩
          obtain ⟨B, hB⟩ : ∃ B, B = wC.heap.size := ⟨_, rfl⟩
          rw [← hB] at HBXw7 HBN HBW2 ⊢
          clear hB
          obtain ⟨c0, c1, c2, c3⟩ := cells4 (R3_w7).out
          have z3 : w.heap.size < w7.heap.size := (Array.getElem?_eq_some_iff.1 R3_w7.out).1
          obtain ⟨d0, d1, d2, d3, d4, d5, d6⟩ := cells7 HBXw7.out.row
          have z5 : B < w7.heap.size := (Array.getElem?_eq_some_iff.1 HBXw7.out.row).1
          rcases HONE.out with e0 | ⟨y, ey, hyk⟩
          · subst e0
            go_wp2
            go_ret
            exact ⟨rfl, HG7.out⟩
          · skip
            subst ey
            obtain ⟨aa2, ca2, hae, a1, a2, -, hael⟩ := id HAF.out
            simp only [Value.slice.injEq, true_and] at hae
            obtain ⟨rfl, rfl⟩ := hae
            obtain ⟨ba, oa, va, rfl, y0, -⟩ := Mss.at_ hael 0 (by simp)
            simp only [List.getElem_cons_zero, Nat.zero_mul, Nat.add_zero] at y0
            have za := World.block_lt_of_cell? w7 _ y0
            simp only at za
            clear hael a1 a2
            by_cases hy2 : y.kind = 2
            · skip
              have HK0 := Lib.hid (hyk hy2)
              rw [hy2] at y0
              clear hyk hy2
              simp only [List.length_cons, List.length_nil, Nat.zero_add]
              go_wp2
              go_loopw [6, 47] (fun _ i wr => ∃ (k : Nat) (hx : Hs) (cs : Array Value), k ≤ ms.length ∧ i = .int .i64 k ∧ Grow w wr ∧ InBox wr B hx cs ∧ HrOk hx (61 + k) ∧ Kept hx m.deed ∧ wr.heap[w.heap.size]? = some (.cells #[.int .i64 m.kind, .int .i64 m.deed, .int .i64 m.house, .slice (some ⟨bp, op, none⟩) m.parts.length cp] 39 (0, 0))) (fun _ i _ => ms.length - (intOf i).toNat)
              case atStart => exact ⟨0, h', _, by omega, rfl, HG7.out, HBXw7.out, HO2.out, HK0.out, R3_w7.out⟩
              case round =>
                obtain ⟨k, hx, cs, hk', rfl, hb, hbox, hok2, hkept, hr3⟩ := hrel
                obtain ⟨xl, xk, xr, xt, xd, xu, rfl⟩ := hbox.cells
                have HBXwr := Lib.hid hbox
                have R3_wr := Lib.hid hr3
                have HOX := Lib.hid hok2
                have HKX := Lib.hid hkept
                have HB := Lib.hid hb
                clear hr3 hbox hok2 hkept
                obtain ⟨c0, c1, c2, c3⟩ := cells4 (R3_wr).out
                have z3 : w.heap.size < wr.heap.size := (Array.getElem?_eq_some_iff.1 R3_wr.out).1
                obtain ⟨d0, d1, d2, d3, d4, d5, d6⟩ := cells7 HBXwr.out.row
                have z5 : B < wr.heap.size := (Array.getElem?_eq_some_iff.1 HBXwr.out.row).1
                by_cases hlt : k < ms.length
                · skip
                  obtain ⟨b, o, vp, rfl, g0, g1, g2, g3, i0, i1, i2, hP⟩ := Mss.at_ hel k hlt
                  obtain ⟨xp, xq, rfl, -⟩ := id hP
                  replace g0 := hb.sub _ _ g0
                  replace g1 := hb.sub _ _ g1
                  replace g2 := hb.sub _ _ g2
                  replace g3 := hb.sub _ _ g3
                  clear hel
                  generalize ms[k] = x at *
                  have hx0 : Of Ty.ms w.cell? (.agg #[.int .i64 x.kind, .int .i64 x.deed, .int .i64 x.house, .slice xp x.parts.length xq]) x := ⟨_, rfl, _, rfl, i0, i1, i2, hP⟩
                  have HX0 := Lib.hid hx0
                  have HWR := Lib.hid (fun (W : World) (hW : Grow wr W) => ref_wrong W (hx0.mono (hb.trans hW).sub))
                  have HLT : Hid (k < ms.length) := Lib.hid hlt
                  clear hb hP hx0 i0 i1 i2
                  by_cases hw : wrongM x = 0
                  · skip
                    have hbw : (wrongM x != 0) = false := by simp [hw]
                    have HR := Lib.hid (right_m.1 hw)
                    clear hw
                    generalize wrongM x = wm at *
                    by_cases hh : x.house = m.house
                    · skip
                      have hbh : (x.house != m.house) = false := by simp [hh]
                      clear hh
                      by_cases hab : x.deed = m.deed ∧ x.kind = 5
                      · skip
                        have hb1 : (x.deed == m.deed) = true := by simp [hab.1]
                        have hb2 : (x.kind == 5) = true := by simp [hab.2]
                        clear hab
                        go_wp2_with fail
                        refine (HWR.out _ ((Grow.refl wr).alloc _)).mono ?_
                        rintro e w2 ⟨rfl, hb2'⟩
                        have R10 := Lib.hid (row_grow (row_new wr (.cells #[.int .i64 x.kind, .int .i64 x.deed, .int .i64 x.house, .slice xp x.parts.length xq] 39)) hb2')
                        have HG2 := Lib.hid (((Grow.refl wr).alloc (.cells #[.int .i64 x.kind, .int .i64 x.deed, .int .i64 x.house, .slice xp x.parts.length xq] 39)).trans hb2')
                        clear hb2' g0 g1 g2 g3
                        clear c0 c1 c2 c3 z3 d0 d1 d2 d3 d4 d5 d6 z5
                        have R3_w2 := Lib.hid (row_grow R3_wr.out HG2.out)
                        have HBXw2 := Lib.hid (HBXwr.out.grow HG2.out)
                        obtain ⟨c0, c1, c2, c3⟩ := cells4 (R3_w2).out
                        have z3 : w.heap.size < w2.heap.size := (Array.getElem?_eq_some_iff.1 R3_w2.out).1
                        obtain ⟨d0, d1, d2, d3, d4, d5, d6⟩ := cells7 HBXw2.out.row
                        have z5 : B < w2.heap.size := (Array.getElem?_eq_some_iff.1 HBXw2.out.row).1
                        obtain ⟨q0, q1, q2, q3⟩ := cells4 R10.out
                        have z10 : wr.heap.size < w2.heap.size := (Array.getElem?_eq_some_iff.1 R10.out).1
                        go_wp2
                        go_ret
                        exact ⟨rfl, HB.out.trans HG2.out⟩
                      · skip
                        have HHX := Lib.hid (fun (W : World) (hW : Grow wr W) (hh : Of Ty.hs W.cell? (.agg #[.slice xl hx.log.length xk, .int .i64 hx.sums.a, .int .i64 hx.sums.b, .int .i64 hx.sums.c, .int .i64 hx.sums.d, .slice xr hx.ready.length xt, .slice xd hx.done.length xu]) hx) => house_hear (me := m.house) W hh (HX0.out.mono (HB.out.trans hW).sub) HOX.out.keys HR.out.keys (by have := HOX.out.len; have := HSM.out; have := HLT.out; omega) (fun y hy => by have := HOX.out.small y hy; omega) (by have := HR.out.len'; omega) HME.out HOX.out.made)
                        have HON := Lib.hid (HOX.out.hear HR.out)
                        have HKN := Lib.hid (kept_hear HOX.out.made HKX.out hab)
                        generalize hearM hx m.house x = ax at *
                        generalize hearH hx x = hn at *
                        by_cases hd1 : x.deed = m.deed
                        · skip
                          have hb1 : (x.deed == m.deed) = true := by simp [hd1]
                          have hb2 : (x.kind == 5) = false := by simpa using fun e => hab ⟨hd1, e⟩
                          clear hab hd1
                          go_wp2_with fail
                          refine (HWR.out _ ((Grow.refl wr).alloc _)).mono ?_
                          rintro e w2 ⟨rfl, hb2'⟩
                          have R10 := Lib.hid (row_grow (row_new wr (.cells #[.int .i64 x.kind, .int .i64 x.deed, .int .i64 x.house, .slice xp x.parts.length xq] 39)) hb2')
                          have HG2 := Lib.hid (((Grow.refl wr).alloc (.cells #[.int .i64 x.kind, .int .i64 x.deed, .int .i64 x.house, .slice xp x.parts.length xq] 39)).trans hb2')
                          clear hb2' g0 g1 g2 g3
                          clear c0 c1 c2 c3 z3 d0 d1 d2 d3 d4 d5 d6 z5
                          have R3_w2 := Lib.hid (row_grow R3_wr.out HG2.out)
                          have HBXw2 := Lib.hid (HBXwr.out.grow HG2.out)
                          obtain ⟨c0, c1, c2, c3⟩ := cells4 (R3_w2).out
                          have z3 : w.heap.size < w2.heap.size := (Array.getElem?_eq_some_iff.1 R3_w2.out).1
                          obtain ⟨d0, d1, d2, d3, d4, d5, d6⟩ := cells7 HBXw2.out.row
                          have z5 : B < w2.heap.size := (Array.getElem?_eq_some_iff.1 HBXw2.out.row).1
                          obtain ⟨q0, q1, q2, q3⟩ := cells4 R10.out
                          have z10 : wr.heap.size < w2.heap.size := (Array.getElem?_eq_some_iff.1 R10.out).1
                          go_wp2_with fail
                          refine (HHX.out _ HG2.out (HBXw2.out.of.mono (wo_sub _ _))).mono ?_
                          rintro e w3 ⟨v1, v2, rfl, hof, hax, hb3⟩
                          obtain ⟨al2, cl2, ar2, cr2, ad2, cd2, rfl⟩ := hof.hs_form
                          have HOF := Lib.hid hof
                          have HB3 := Lib.hid hb3
                          clear hof hax hb3 q0 q1 q2 q3 z10
                          clear c0 c1 c2 c3 z3 d0 d1 d2 d3 d4 d5 d6 z5
                          go_wp2_with (first | (refine wpList_store_row rfl (.tmp 7) (.tmp 79) rfl rfl rfl (row_grow HBXwr.out.row (HG2.out.trans HB3.out)) info_hs rfl rfl ?_))
                          intro w4 r4 g4
                          have HX4 : Hid (InBox w4 B hn _) := Lib.hid (InBox.put (Array.getElem?_eq_some_iff.1 HBXwr.out.row).1 HG2.out HB3.out (HOF.out.mono (ov_mono (fun a v e => by cases e) (Grow.refl _))) r4 g4)
                          have HG4 : Hid (Grow w w4) := Lib.hid ((HB.out.trans (HG2.out.trans HB3.out)).grown g4 (fun k hk => by obtain rfl := Option.some.inj hk; exact HBN.out))
                          have R3_w4 := Lib.hid (row_by (row_grow R3_wr.out (HG2.out.trans HB3.out)) g4 (by have := HBW2.out; simp; omega))
                          clear r4 g4
                          go_wp2
                          go_roundw
                          case rel => exact ⟨k + 1, hn, _, by omega, by go_num, HG4.out, HX4.out, (by have h9 := HON.out; rw [Nat.add_assoc] at h9; exact h9), HKN.out, R3_w4.out⟩
                          case measure => simp [intOf]; omega
                        · skip
                          have hb1 : (x.deed == m.deed) = false := by simp [hd1]
                          clear hab hd1
                          go_wp2_with fail
                          refine (HWR.out _ ((Grow.refl wr).alloc _)).mono ?_
                          rintro e w2 ⟨rfl, hb2'⟩
                          have R10 := Lib.hid (row_grow (row_new wr (.cells #[.int .i64 x.kind, .int .i64 x.deed, .int .i64 x.house, .slice xp x.parts.length xq] 39)) hb2')
                          have HG2 := Lib.hid (((Grow.refl wr).alloc (.cells #[.int .i64 x.kind, .int .i64 x.deed, .int .i64 x.house, .slice xp x.parts.length xq] 39)).trans hb2')
                          clear hb2' g0 g1 g2 g3
                          clear c0 c1 c2 c3 z3 d0 d1 d2 d3 d4 d5 d6 z5
                          have R3_w2 := Lib.hid (row_grow R3_wr.out HG2.out)
                          have HBXw2 := Lib.hid (HBXwr.out.grow HG2.out)
                          obtain ⟨c0, c1, c2, c3⟩ := cells4 (R3_w2).out
                          have z3 : w.heap.size < w2.heap.size := (Array.getElem?_eq_some_iff.1 R3_w2.out).1
                          obtain ⟨d0, d1, d2, d3, d4, d5, d6⟩ := cells7 HBXw2.out.row
                          have z5 : B < w2.heap.size := (Array.getElem?_eq_some_iff.1 HBXw2.out.row).1
                          obtain ⟨q0, q1, q2, q3⟩ := cells4 R10.out
                          have z10 : wr.heap.size < w2.heap.size := (Array.getElem?_eq_some_iff.1 R10.out).1
                          go_wp2_with fail
                          refine (HHX.out _ HG2.out (HBXw2.out.of.mono (wo_sub _ _))).mono ?_
                          rintro e w3 ⟨v1, v2, rfl, hof, hax, hb3⟩
                          obtain ⟨al2, cl2, ar2, cr2, ad2, cd2, rfl⟩ := hof.hs_form
                          have HOF := Lib.hid hof
                          have HB3 := Lib.hid hb3
                          clear hof hax hb3 q0 q1 q2 q3 z10
                          clear c0 c1 c2 c3 z3 d0 d1 d2 d3 d4 d5 d6 z5
                          go_wp2_with (first | (refine wpList_store_row rfl (.tmp 7) (.tmp 79) rfl rfl rfl (row_grow HBXwr.out.row (HG2.out.trans HB3.out)) info_hs rfl rfl ?_))
                          intro w4 r4 g4
                          have HX4 : Hid (InBox w4 B hn _) := Lib.hid (InBox.put (Array.getElem?_eq_some_iff.1 HBXwr.out.row).1 HG2.out HB3.out (HOF.out.mono (ov_mono (fun a v e => by cases e) (Grow.refl _))) r4 g4)
                          have HG4 : Hid (Grow w w4) := Lib.hid ((HB.out.trans (HG2.out.trans HB3.out)).grown g4 (fun k hk => by obtain rfl := Option.some.inj hk; exact HBN.out))
                          have R3_w4 := Lib.hid (row_by (row_grow R3_wr.out (HG2.out.trans HB3.out)) g4 (by have := HBW2.out; simp; omega))
                          clear r4 g4
                          go_wp2
                          go_roundw
                          case rel => exact ⟨k + 1, hn, _, by omega, by go_num, HG4.out, HX4.out, (by have h9 := HON.out; rw [Nat.add_assoc] at h9; exact h9), HKN.out, R3_w4.out⟩
                          case measure => simp [intOf]; omega
                    · skip
                      have hbh : (x.house != m.house) = true := by simp [hh]
                      clear hh
                      go_wp2_with fail
                      refine (HWR.out _ ((Grow.refl wr).alloc _)).mono ?_
                      rintro e w2 ⟨rfl, hb2'⟩
                      have R10 := Lib.hid (row_grow (row_new wr (.cells #[.int .i64 x.kind, .int .i64 x.deed, .int .i64 x.house, .slice xp x.parts.length xq] 39)) hb2')
                      have HG2 := Lib.hid (((Grow.refl wr).alloc (.cells #[.int .i64 x.kind, .int .i64 x.deed, .int .i64 x.house, .slice xp x.parts.length xq] 39)).trans hb2')
                      clear hb2' g0 g1 g2 g3
                      clear c0 c1 c2 c3 z3 d0 d1 d2 d3 d4 d5 d6 z5
                      have R3_w2 := Lib.hid (row_grow R3_wr.out HG2.out)
                      have HBXw2 := Lib.hid (HBXwr.out.grow HG2.out)
                      obtain ⟨c0, c1, c2, c3⟩ := cells4 (R3_w2).out
                      have z3 : w.heap.size < w2.heap.size := (Array.getElem?_eq_some_iff.1 R3_w2.out).1
                      obtain ⟨d0, d1, d2, d3, d4, d5, d6⟩ := cells7 HBXw2.out.row
                      have z5 : B < w2.heap.size := (Array.getElem?_eq_some_iff.1 HBXw2.out.row).1
                      obtain ⟨q0, q1, q2, q3⟩ := cells4 R10.out
                      have z10 : wr.heap.size < w2.heap.size := (Array.getElem?_eq_some_iff.1 R10.out).1
                      go_wp2
                      go_ret
                      exact ⟨rfl, HB.out.trans HG2.out⟩
                  · skip
                    have hbw : (wrongM x != 0) = true := by simp [hw]
                    clear hw
                    generalize wrongM x = wm at *
                    go_wp2_with fail
                    refine (HWR.out _ ((Grow.refl wr).alloc _)).mono ?_
                    rintro e w2 ⟨rfl, hb2'⟩
                    have R10 := Lib.hid (row_grow (row_new wr (.cells #[.int .i64 x.kind, .int .i64 x.deed, .int .i64 x.house, .slice xp x.parts.length xq] 39)) hb2')
                    have HG2 := Lib.hid (((Grow.refl wr).alloc (.cells #[.int .i64 x.kind, .int .i64 x.deed, .int .i64 x.house, .slice xp x.parts.length xq] 39)).trans hb2')
                    clear hb2' g0 g1 g2 g3
                    clear c0 c1 c2 c3 z3 d0 d1 d2 d3 d4 d5 d6 z5
                    have R3_w2 := Lib.hid (row_grow R3_wr.out HG2.out)
                    have HBXw2 := Lib.hid (HBXwr.out.grow HG2.out)
                    obtain ⟨c0, c1, c2, c3⟩ := cells4 (R3_w2).out
                    have z3 : w.heap.size < w2.heap.size := (Array.getElem?_eq_some_iff.1 R3_w2.out).1
                    obtain ⟨d0, d1, d2, d3, d4, d5, d6⟩ := cells7 HBXw2.out.row
                    have z5 : B < w2.heap.size := (Array.getElem?_eq_some_iff.1 HBXw2.out.row).1
                    obtain ⟨q0, q1, q2, q3⟩ := cells4 R10.out
                    have z10 : wr.heap.size < w2.heap.size := (Array.getElem?_eq_some_iff.1 R10.out).1
                    go_wp2
                    go_ret
                    exact ⟨rfl, HB.out.trans HG2.out⟩
                · skip
                  clear hel
                  obtain ⟨w1d, w2e, w3k⟩ : m.deed ∈ (hearH hx ⟨4, m.deed, m.house, []⟩).done ∧ hearM hx m.house ⟨4, m.deed, m.house, []⟩ = sayE 6 m.deed m.house ∧ ∀ key, whoE (hearH hx ⟨4, m.deed, m.house, []⟩).ready key ≠ m.deed := ⟨(word_law (me := m.house) HOX.out.made HOX.out.fine HD0.out HKX.out m.house 0).1, (word_law (me := m.house) HOX.out.made HOX.out.fine HD0.out HKX.out m.house 0).2.1, fun key => (word_law (me := m.house) HOX.out.made HOX.out.fine HD0.out HKX.out m.house key).2.2⟩
                  have hhc := (fun (W : World) (hh : Of Ty.hs W.cell? (.agg #[.slice xl hx.log.length xk, .int .i64 hx.sums.a, .int .i64 hx.sums.b, .int .i64 hx.sums.c, .int .i64 hx.sums.d, .slice xr hx.ready.length xt, .slice xd hx.done.length xu]) hx) => house_hear (me := m.house) (m := ⟨4, m.deed, m.house, []⟩) (vm := .agg #[.int .i64 4, .int .i64 m.deed, .int .i64 m.house, .slice none 0 0]) W hh ⟨_, rfl, _, rfl, (show I64 4 by unfold I64; decide), HMD.out, HME.out, Sl.nil _ _⟩ HOX.out.keys (by intro p hp; simp at hp) (by have := HOX.out.len; have := HSM.out; omega) (fun y hy => by have := HOX.out.small y hy; omega) (by simp) HME.out HOX.out.made)
                  rw [w2e] at hhc
                  have HHC := Lib.hid hhc
                  clear hhc w2e
                  generalize hearH hx ⟨4, m.deed, m.house, []⟩ = hn at *
                  have HIN := Lib.hid w1d
                  have HWK := Lib.hid w3k
                  clear w1d w3k
                  go_wp2_with fail
                  refine (HHC.out _ (HBXwr.out.of.mono (wo_sub _ _))).mono ?_
                  rintro e w3 ⟨v1, v2, rfl, hof, hbm, hb3⟩
                  obtain ⟨nl, nk, nr, nt, nd, nu, rfl⟩ := hof.hs_form
                  have HOF := Lib.hid hof
                  have HB3 := Lib.hid hb3
                  have hbm' := hbm.mono (ov_none hb3)
                  unfold sayE at hbm hbm'
                  obtain ⟨ab, cb, rfl, b1, b2, -, hbl⟩ := hbm'
                  obtain ⟨bb, ob, vb, rfl, s0, -⟩ := Mss.at_ hbl 0 (by simp)
                  simp only [List.getElem_cons_zero, Nat.zero_mul, Nat.add_zero, List.length_cons, List.length_nil, Nat.zero_add] at s0 b1
                  have S0 := Lib.hid s0
                  have HBM := Lib.hid (hbm.mono (win_ov _ _))
                  simp only [List.length_cons, List.length_nil, Nat.zero_add]
                  clear hof hbm hb3 hbl b1 b2 s0
                  clear c0 c1 c2 c3 z3 d0 d1 d2 d3 d4 d5 d6 z5
                  go_wp2_with (first | (refine wpList_store_row rfl (.tmp 7) (.tmp 92) rfl rfl rfl (row_grow HBXwr.out.row HB3.out) info_hs rfl rfl ?_))
                  intro w4 r4 g4
                  have HBXw4 : Hid (InBox w4 B hn _) := Lib.hid (InBox.put (Array.getElem?_eq_some_iff.1 HBXwr.out.row).1 (Grow.refl wr) HB3.out (HOF.out.mono (ov_mono (fun a v e => by cases e) (Grow.refl _))) r4 g4)
                  have HG4 : Hid (Grow w w4) := Lib.hid ((HB.out.trans HB3.out).grown g4 (fun k hk => by obtain rfl := Option.some.inj hk; exact HBN.out))
                  have R3_w4 := Lib.hid (row_by (row_grow R3_wr.out HB3.out) g4 (by have := HBW2.out; simp; omega))
                  have S4 : Hid (w4.cell? ⟨bb, ob, none⟩ = some (.int .i64 6)) := Lib.hid (by
                    obtain ⟨a9, c9, e9, -, -, -, hl9⟩ := HBM.out.mono (win_set g4 (.inl (Array.getElem?_eq_some_iff.1 HBXwr.out.row).1))
                    simp only [Value.slice.injEq] at e9
                    obtain ⟨rfl, -, rfl⟩ := e9
                    obtain ⟨b9, o9, v9, e9, s9, -⟩ := Mss.at_ (fun i x h => hl9 i x h) 0 (by simp)
                    obtain ⟨rfl, rfl⟩ : bb = b9 ∧ ob = o9 := by simpa using e9
                    simpa using win_sub _ _ _ _ _ s9)
                  clear r4 g4 S0
                  obtain ⟨c0, c1, c2, c3⟩ := cells4 (R3_w4).out
                  have z3 : w.heap.size < w4.heap.size := (Array.getElem?_eq_some_iff.1 R3_w4.out).1
                  obtain ⟨d0, d1, d2, d3, d4, d5, d6⟩ := cells7 HBXw4.out.row
                  have z5 : B < w4.heap.size := (Array.getElem?_eq_some_iff.1 HBXw4.out.row).1
                  have HDN := Lib.hid ((Of.hs_log HBXw4.out.of).2.2)
                  obtain ⟨nd', nu', hde, n1, n2, -, hdl⟩ := (Of.hs_log HBXw4.out.of).2.2
                  simp only [Value.slice.injEq, true_and] at hde
                  obtain ⟨rfl, rfl⟩ := hde
                  unfold maxLen at n2
                  go_wp2
                  obtain ⟨wo9, rfl⟩ : ∃ x : World, x = wr := ⟨_, rfl⟩
                  go_loopw [12, 14, 97] (fun f _ i wr => ∃ j : Nat, j ≤ hn.done.length ∧ i = .int .i64 j ∧ f = .bool (decide (m.deed ∈ hn.done.take j)) ∧ Grow w4 wr) (fun _ _ i _ => hn.done.length - (intOf i).toNat)
                  case atStart => exact ⟨0, by omega, rfl, by simp, Grow.refl _⟩
                  case round =>
                    obtain ⟨j, hj', rfl, rfl, hb⟩ := hrel
                    obtain ⟨wx, rfl⟩ : ∃ x : World, x = wr := ⟨_, rfl⟩
                    have R3_wx := Lib.hid (row_grow R3_w4.out hb)
                    have HBXwx := Lib.hid (HBXw4.out.grow hb)
                    clear c0 c1 c2 c3 z3 d0 d1 d2 d3 d4 d5 d6 z5
                    obtain ⟨c0, c1, c2, c3⟩ := cells4 (R3_wx).out
                    have z3 : w.heap.size < wx.heap.size := (Array.getElem?_eq_some_iff.1 R3_wx.out).1
                    obtain ⟨d0, d1, d2, d3, d4, d5, d6⟩ := cells7 HBXwx.out.row
                    have z5 : B < wx.heap.size := (Array.getElem?_eq_some_iff.1 HBXwx.out.row).1
                    by_cases hlt2 : j < hn.done.length
                    · skip
                      obtain ⟨b, o, rfl, e0, -⟩ := intAt hdl j hlt2
                      replace e0 := hb.sub _ _ (wo_sub _ _ _ _ e0)
                      have HTK : Hid (decide (m.deed ∈ hn.done.take (j + 1)) = (decide (m.deed ∈ hn.done.take j) || (hn.done[j] == m.deed))) := Lib.hid (by
                        rw [List.take_succ_eq_append_getElem hlt2, Bool.eq_iff_iff]
                        simp only [decide_eq_true_eq, Bool.or_eq_true, beq_iff_eq, List.mem_append, List.mem_singleton]
                        exact or_congr Iff.rfl ⟨Eq.symm, Eq.symm⟩)
                      clear hdl
                      generalize hn.done[j] = dj at *
                      generalize decide (m.deed ∈ hn.done.take j) = acc at *
                      cases acc
                      · go_wp2_with fail
                        go_roundw
                        case rel => exact ⟨j + 1, by omega, by go_num, by rw [HTK.out]; rfl, hb⟩
                        case measure => simp [intOf]; omega
                      · go_wp2_with fail
                        go_roundw
                        case rel => exact ⟨j + 1, by omega, by go_num, by rw [HTK.out]; rfl, hb⟩
                        case measure => simp [intOf]; omega
                    · skip
                      have hjn : j = hn.done.length := by omega
                      have hdd : decide (m.deed ∈ hn.done.take j) = true := by rw [List.take_of_length_le (by omega)]; exact decide_eq_true HIN.out
                      rw [hdd]
                      clear hdd hdl
                      have s4 := hb.sub _ _ S4.out
                      have zs := World.block_lt_of_cell? wx _ s4
                      simp only at zs
                      have p1 := hb.sub _ _ (HG4.out.sub _ _ HP0.out)
                      have zp := World.block_lt_of_cell? wx _ p1
                      simp only at zp
                      have HWH : Hid (∀ W, Grow wx W → Calls Try.prog 30 #[.agg #[.slice nl hn.log.length nk, .int .i64 hn.sums.a, .int .i64 hn.sums.b, .int .i64 hn.sums.c, .int .i64 hn.sums.d, .slice nr hn.ready.length nt, .slice nd hn.done.length nu], .int .i64 p0.k] W fun e w' => e = .returned (.int .i64 (whoE hn.ready p0.k)) ∧ Grow W w') := fun W hW => ref_who W (HBXwx.out.of.mono ((wo_sub _ _).trans hW.sub))
                      have hne : (whoE hn.ready p0.k != m.deed) = true := by simpa using HWK.out p0.k
                      generalize whoE hn.ready p0.k = wh at *
                      have HS2 : Hid (∀ W, Grow wx W → W.cell? ⟨B, 0, none⟩ = some (.slice nl hn.log.length nk) ∧ W.cell? ⟨B, 1, none⟩ = some (.int .i64 hn.sums.a) ∧ W.cell? ⟨B, 2, none⟩ = some (.int .i64 hn.sums.b) ∧ W.cell? ⟨B, 3, none⟩ = some (.int .i64 hn.sums.c) ∧ W.cell? ⟨B, 4, none⟩ = some (.int .i64 hn.sums.d) ∧ W.cell? ⟨B, 5, none⟩ = some (.slice nr hn.ready.length nt) ∧ W.cell? ⟨B, 6, none⟩ = some (.slice nd hn.done.length nu) ∧ W.cell? ⟨w.heap.size, 1, none⟩ = some (.int .i64 m.deed) ∧ W.cell? ⟨w.heap.size, 3, none⟩ = some (.slice (some ⟨bp, op, none⟩) m.parts.length cp) ∧ W.cell? ⟨bb, ob, none⟩ = some (.int .i64 6) ∧ W.cell? ⟨bp, op + 1, none⟩ = some (.int .i64 p0.k)) := fun W hW => ⟨hW.sub _ _ d0, hW.sub _ _ d1, hW.sub _ _ d2, hW.sub _ _ d3, hW.sub _ _ d4, hW.sub _ _ d5, hW.sub _ _ d6, hW.sub _ _ c1, hW.sub _ _ c3, hW.sub _ _ s4, hW.sub _ _ p1⟩
                      go_wp2_with fail
                      go_region_held3 (fun w' => w'.cell? ⟨B, 0, none⟩ = some (.slice nl hn.log.length nk) ∧ w'.cell? ⟨B, 1, none⟩ = some (.int .i64 hn.sums.a) ∧ w'.cell? ⟨B, 2, none⟩ = some (.int .i64 hn.sums.b) ∧ w'.cell? ⟨B, 3, none⟩ = some (.int .i64 hn.sums.c) ∧ w'.cell? ⟨B, 4, none⟩ = some (.int .i64 hn.sums.d) ∧ w'.cell? ⟨B, 5, none⟩ = some (.slice nr hn.ready.length nt) ∧ w'.cell? ⟨B, 6, none⟩ = some (.slice nd hn.done.length nu) ∧ w'.cell? ⟨w.heap.size, 1, none⟩ = some (.int .i64 m.deed) ∧ w'.cell? ⟨w.heap.size, 3, none⟩ = some (.slice (some ⟨bp, op, none⟩) m.parts.length cp) ∧ w'.cell? ⟨bb, ob, none⟩ = some (.int .i64 6) ∧ w'.cell? ⟨bp, op + 1, none⟩ = some (.int .i64 p0.k)) (first | assumption | exact HS2.out _ (by repeat (first | with_reducible assumption | with_reducible exact Grow.refl _ | with_reducible apply Grow.drewN | with_reducible apply Grow.drew | with_reducible apply Grow.alloc | (refine Grow.trans ?_ (by with_reducible assumption))))) (first | (go_at_call 30; refine (HWH.out _ (by repeat (first | with_reducible assumption | with_reducible exact Grow.refl _ | with_reducible apply Grow.drewN | with_reducible apply Grow.drew | with_reducible apply Grow.alloc | (refine Grow.trans ?_ (by with_reducible assumption))))).mono ?_; rintro e wa ⟨rfl, hba⟩))
                      go_wp2
                      go_ret
                      exact ⟨rfl, HG4.out.trans (hb.trans (by repeat (first | with_reducible assumption | with_reducible exact Grow.refl _ | with_reducible apply Grow.drewN | with_reducible apply Grow.drew | with_reducible apply Grow.alloc | (refine Grow.trans ?_ (by with_reducible assumption)))))⟩
            · skip
              have hb9 : (y.kind != 2) = true := by simp [hy2]
              clear hyk hy2
              simp only [List.length_cons, List.length_nil, Nat.zero_add]
              go_wp2
              go_ret
              exact ⟨rfl, HG7.out⟩
        · skip
          intro K HK'
          have HK := Lib.hid HK'
          clear HK'
          skip
          try simp only [List.getElem_toArray, List.getElem_cons_succ, List.getElem_cons_zero]
          go_simp
          have RA := Lib.hid (row_new wA (.cells #[.slice none 0 0, .int .i64 0, .int .i64 0, .int .i64 0, .int .i64 0, .slice none 0 0, .slice none 0 0] 29))
          refine HK.out _ _ ⟨fun _ => HS.out _ (GA.alloc _), ?_⟩
          clear HK K
          try simp only [Act.put, List.getElem_toArray, List.getElem_cons_succ, List.getElem_cons_zero, List.setIfInBounds_toArray, List.set_cons_zero, List.set_cons_succ]
          refine but_one (i := 5) (by kernel_rfl) rfl ?_
          intro K HK'
          have HK := Lib.hid HK'
          clear HK'
          skip
          try simp only [List.getElem_toArray, List.getElem_cons_succ, List.getElem_cons_zero]
          go_simp
          go_at_call 50
          refine (HHE.out _ _ (HBW.out.trans (GA.alloc _)) (HH.out.mono ((Grow.refl wA).alloc _).sub)).mono ?_
          rintro e wC ⟨v1, v2, rfl, hx, ha, hbC⟩
          obtain ⟨xl, xk, xr, xt, xd, xu, rfl⟩ := hx.hs_form
          obtain ⟨aa, ca, rfl, -⟩ := id ha
          have HX0 := Lib.hid (hx.mono (win_ov _ _))
          have HA0 := Lib.hid (ha.mono (win_ov _ _))
          have GC := Grow.trans (GA.alloc _) hbC
          have RC := Lib.hid (row_grow RA.out hbC)
          clear hx ha
          refine HK.out _ _ ⟨fun _ => HS.out _ GC, ?_⟩
          clear HK K
          try simp only [Act.put, List.getElem_toArray, List.getElem_cons_succ, List.getElem_cons_zero, List.setIfInBounds_toArray, List.set_cons_zero, List.set_cons_succ]
          refine but_take (i := 6) (v := ?_) 14 rfl (by kernel_rfl) (by kernel_rfl) (by kernel_rfl) (by kernel_rfl) (by kernel_rfl) (fun _ _ _ h => h) (HS.out _ GC) (Or.inl ⟨by rfl, ?_⟩) ?_
          rotate_left
          · (intro w' hSw; (try dsimp only at hSw); obtain ⟨hs0, hs1, hs2, hs3⟩ := hSw; go_simp <;> with_reducible rfl)
          try simp only [Act.put, List.getElem_toArray, List.getElem_cons_succ, List.getElem_cons_zero, List.setIfInBounds_toArray, List.set_cons_zero, List.set_cons_succ]
          refine but_take (i := 7) (v := ?_) 14 rfl (by kernel_rfl) (by kernel_rfl) (by kernel_rfl) (by kernel_rfl) (by kernel_rfl) (fun _ _ _ h => h) (HS.out _ GC) (Or.inl ⟨by rfl, ?_⟩) ?_
          rotate_left
          · (intro w' hSw; (try dsimp only at hSw); obtain ⟨hs0, hs1, hs2, hs3⟩ := hSw; go_simp <;> with_reducible rfl)
          try simp only [Act.put, List.getElem_toArray, List.getElem_cons_succ, List.getElem_cons_zero, List.setIfInBounds_toArray, List.set_cons_zero, List.set_cons_succ]
          refine but_take (i := 8) (v := ?_) 14 rfl (by kernel_rfl) (by kernel_rfl) (by kernel_rfl) (by kernel_rfl) (by kernel_rfl) (fun _ _ _ h => h) (HS.out _ GC) (Or.inl ⟨by rfl, ?_⟩) ?_
          rotate_left
          · (intro w' hSw; (try dsimp only at hSw); obtain ⟨hs0, hs1, hs2, hs3⟩ := hSw; go_simp <;> with_reducible rfl)
          try simp only [Act.put, List.getElem_toArray, List.getElem_cons_succ, List.getElem_cons_zero, List.setIfInBounds_toArray, List.set_cons_zero, List.set_cons_succ]
          refine but_one (i := 10) (by kernel_rfl) rfl ?_
          intro K HK'
          have HK := Lib.hid HK'
          clear HK'
          refine wanted_go rfl ?_
          try simp only [List.getElem_toArray, List.getElem_cons_succ, List.getElem_cons_zero]
          refine wp_store_row (.tmp 7) (.tmp 33) rfl rfl rfl RC.out info_hs rfl rfl ?_
          intro w7 r7 g7
          have HXO := Lib.hid ((HX0.out.mono (win_set g7 (.inl (Array.getElem?_eq_some_iff.1 RA.out).1))).mono (win_wo (.inl (Array.getElem?_eq_some_iff.1 RA.out).1)))
          have HXF := Lib.hid ((HX0.out.mono (win_set g7 (.inl (Array.getElem?_eq_some_iff.1 RA.out).1))).mono (win_sub _ _ _))
          have HAF := Lib.hid ((HA0.out.mono (win_set g7 (.inl (Array.getElem?_eq_some_iff.1 RA.out).1))).mono (win_sub _ _ _))
          have GF := Lib.hid (Grow.grown GC g7 (fun k hk => by obtain rfl := Option.some.inj hk; exact GA.size))
          have HBN : Hid (w.heap.size ≤ wA.heap.size) := Lib.hid (HBW.out.trans GA).size
          have HBW2 : Hid (w.heap.size < wA.heap.size) := Lib.hid (by have := (Array.getElem?_eq_some_iff.1 R3_2.out).1; have := GA.size; omega)
          have R7 := Lib.hid r7
          clear r7 g7
          refine HK.out _ _ ⟨fun _ => HS.out _ GF.out, ?_⟩
          clear HK K
          try simp only [Act.put]
          refine but_one (i := 11) (by kernel_rfl) rfl ?_
          intro K HK'
          have HK := Lib.hid HK'
          clear HK'
          skip
          try simp only [List.getElem_toArray, List.getElem_cons_succ, List.getElem_cons_zero]
          go_simp
          refine HK.out _ _ ⟨fun h => absurd rfl h, ?_⟩
          clear HK K
          try simp only [Act.put, List.getElem_toArray, List.getElem_cons_succ, List.getElem_cons_zero, List.setIfInBounds_toArray, List.set_cons_zero, List.set_cons_succ]
          refine but_done (by kernel_rfl) ?_
          have HG7 : Hid (Grow w w7) := Lib.hid (HBW.out.trans GF.out)
          have R3_w7 := Lib.hid (row_grow R3_2.out GF.out)
          clear HH
          have HBXw7 : Hid (InBox w7 _ h' _) := Lib.hid ⟨R7.out, HXO.out⟩
          obtain ⟨B, hB⟩ : ∃ B, B = wA.heap.size := ⟨_, rfl⟩
          rw [← hB] at HBXw7 HBN HBW2 ⊢
          clear hB
          obtain ⟨c0, c1, c2, c3⟩ := cells4 (R3_w7).out
          have z3 : w.heap.size < w7.heap.size := (Array.getElem?_eq_some_iff.1 R3_w7.out).1
          obtain ⟨d0, d1, d2, d3, d4, d5, d6⟩ := cells7 HBXw7.out.row
          have z5 : B < w7.heap.size := (Array.getElem?_eq_some_iff.1 HBXw7.out.row).1
          rcases HONE.out with e0 | ⟨y, ey, hyk⟩
          · subst e0
            go_wp2
            go_ret
            exact ⟨rfl, HG7.out⟩
          · skip
            subst ey
            obtain ⟨aa2, ca2, hae, a1, a2, -, hael⟩ := id HAF.out
            simp only [Value.slice.injEq, true_and] at hae
            obtain ⟨rfl, rfl⟩ := hae
            obtain ⟨ba, oa, va, rfl, y0, -⟩ := Mss.at_ hael 0 (by simp)
            simp only [List.getElem_cons_zero, Nat.zero_mul, Nat.add_zero] at y0
            have za := World.block_lt_of_cell? w7 _ y0
            simp only at za
            clear hael a1 a2
            by_cases hy2 : y.kind = 2
            · skip
              have HK0 := Lib.hid (hyk hy2)
              rw [hy2] at y0
              clear hyk hy2
              simp only [List.length_cons, List.length_nil, Nat.zero_add]
              go_wp2
              go_loopw [6, 47] (fun _ i wr => ∃ (k : Nat) (hx : Hs) (cs : Array Value), k ≤ ms.length ∧ i = .int .i64 k ∧ Grow w wr ∧ InBox wr B hx cs ∧ HrOk hx (61 + k) ∧ Kept hx m.deed ∧ wr.heap[w.heap.size]? = some (.cells #[.int .i64 m.kind, .int .i64 m.deed, .int .i64 m.house, .slice (some ⟨bp, op, none⟩) m.parts.length cp] 39 (0, 0))) (fun _ i _ => ms.length - (intOf i).toNat)
              case atStart => exact ⟨0, h', _, by omega, rfl, HG7.out, HBXw7.out, HO2.out, HK0.out, R3_w7.out⟩
              case round =>
                obtain ⟨k, hx, cs, hk', rfl, hb, hbox, hok2, hkept, hr3⟩ := hrel
                obtain ⟨xl, xk, xr, xt, xd, xu, rfl⟩ := hbox.cells
                have HBXwr := Lib.hid hbox
                have R3_wr := Lib.hid hr3
                have HOX := Lib.hid hok2
                have HKX := Lib.hid hkept
                have HB := Lib.hid hb
                clear hr3 hbox hok2 hkept
                obtain ⟨c0, c1, c2, c3⟩ := cells4 (R3_wr).out
                have z3 : w.heap.size < wr.heap.size := (Array.getElem?_eq_some_iff.1 R3_wr.out).1
                obtain ⟨d0, d1, d2, d3, d4, d5, d6⟩ := cells7 HBXwr.out.row
                have z5 : B < wr.heap.size := (Array.getElem?_eq_some_iff.1 HBXwr.out.row).1
                by_cases hlt : k < ms.length
                · skip
                  obtain ⟨b, o, vp, rfl, g0, g1, g2, g3, i0, i1, i2, hP⟩ := Mss.at_ hel k hlt
                  obtain ⟨xp, xq, rfl, -⟩ := id hP
                  replace g0 := hb.sub _ _ g0
                  replace g1 := hb.sub _ _ g1
                  replace g2 := hb.sub _ _ g2
                  replace g3 := hb.sub _ _ g3
                  clear hel
                  generalize ms[k] = x at *
                  have hx0 : Of Ty.ms w.cell? (.agg #[.int .i64 x.kind, .int .i64 x.deed, .int .i64 x.house, .slice xp x.parts.length xq]) x := ⟨_, rfl, _, rfl, i0, i1, i2, hP⟩
                  have HX0 := Lib.hid hx0
                  have HWR := Lib.hid (fun (W : World) (hW : Grow wr W) => ref_wrong W (hx0.mono (hb.trans hW).sub))
                  have HLT : Hid (k < ms.length) := Lib.hid hlt
                  clear hb hP hx0 i0 i1 i2
                  by_cases hw : wrongM x = 0
                  · skip
                    have hbw : (wrongM x != 0) = false := by simp [hw]
                    have HR := Lib.hid (right_m.1 hw)
                    clear hw
                    generalize wrongM x = wm at *
                    by_cases hh : x.house = m.house
                    · skip
                      have hbh : (x.house != m.house) = false := by simp [hh]
                      clear hh
                      by_cases hab : x.deed = m.deed ∧ x.kind = 5
                      · skip
                        have hb1 : (x.deed == m.deed) = true := by simp [hab.1]
                        have hb2 : (x.kind == 5) = true := by simp [hab.2]
                        clear hab
                        go_wp2_with fail
                        refine (HWR.out _ ((Grow.refl wr).alloc _)).mono ?_
                        rintro e w2 ⟨rfl, hb2'⟩
                        have R10 := Lib.hid (row_grow (row_new wr (.cells #[.int .i64 x.kind, .int .i64 x.deed, .int .i64 x.house, .slice xp x.parts.length xq] 39)) hb2')
                        have HG2 := Lib.hid (((Grow.refl wr).alloc (.cells #[.int .i64 x.kind, .int .i64 x.deed, .int .i64 x.house, .slice xp x.parts.length xq] 39)).trans hb2')
                        clear hb2' g0 g1 g2 g3
                        clear c0 c1 c2 c3 z3 d0 d1 d2 d3 d4 d5 d6 z5
                        have R3_w2 := Lib.hid (row_grow R3_wr.out HG2.out)
                        have HBXw2 := Lib.hid (HBXwr.out.grow HG2.out)
                        obtain ⟨c0, c1, c2, c3⟩ := cells4 (R3_w2).out
                        have z3 : w.heap.size < w2.heap.size := (Array.getElem?_eq_some_iff.1 R3_w2.out).1
                        obtain ⟨d0, d1, d2, d3, d4, d5, d6⟩ := cells7 HBXw2.out.row
                        have z5 : B < w2.heap.size := (Array.getElem?_eq_some_iff.1 HBXw2.out.row).1
                        obtain ⟨q0, q1, q2, q3⟩ := cells4 R10.out
                        have z10 : wr.heap.size < w2.heap.size := (Array.getElem?_eq_some_iff.1 R10.out).1
                        go_wp2
                        go_ret
                        exact ⟨rfl, HB.out.trans HG2.out⟩
                      · skip
                        have HHX := Lib.hid (fun (W : World) (hW : Grow wr W) (hh : Of Ty.hs W.cell? (.agg #[.slice xl hx.log.length xk, .int .i64 hx.sums.a, .int .i64 hx.sums.b, .int .i64 hx.sums.c, .int .i64 hx.sums.d, .slice xr hx.ready.length xt, .slice xd hx.done.length xu]) hx) => house_hear (me := m.house) W hh (HX0.out.mono (HB.out.trans hW).sub) HOX.out.keys HR.out.keys (by have := HOX.out.len; have := HSM.out; have := HLT.out; omega) (fun y hy => by have := HOX.out.small y hy; omega) (by have := HR.out.len'; omega) HME.out HOX.out.made)
                        have HON := Lib.hid (HOX.out.hear HR.out)
                        have HKN := Lib.hid (kept_hear HOX.out.made HKX.out hab)
                        generalize hearM hx m.house x = ax at *
                        generalize hearH hx x = hn at *
                        by_cases hd1 : x.deed = m.deed
                        · skip
                          have hb1 : (x.deed == m.deed) = true := by simp [hd1]
                          have hb2 : (x.kind == 5) = false := by simpa using fun e => hab ⟨hd1, e⟩
                          clear hab hd1
                          go_wp2_with fail
                          refine (HWR.out _ ((Grow.refl wr).alloc _)).mono ?_
                          rintro e w2 ⟨rfl, hb2'⟩
                          have R10 := Lib.hid (row_grow (row_new wr (.cells #[.int .i64 x.kind, .int .i64 x.deed, .int .i64 x.house, .slice xp x.parts.length xq] 39)) hb2')
                          have HG2 := Lib.hid (((Grow.refl wr).alloc (.cells #[.int .i64 x.kind, .int .i64 x.deed, .int .i64 x.house, .slice xp x.parts.length xq] 39)).trans hb2')
                          clear hb2' g0 g1 g2 g3
                          clear c0 c1 c2 c3 z3 d0 d1 d2 d3 d4 d5 d6 z5
                          have R3_w2 := Lib.hid (row_grow R3_wr.out HG2.out)
                          have HBXw2 := Lib.hid (HBXwr.out.grow HG2.out)
                          obtain ⟨c0, c1, c2, c3⟩ := cells4 (R3_w2).out
                          have z3 : w.heap.size < w2.heap.size := (Array.getElem?_eq_some_iff.1 R3_w2.out).1
                          obtain ⟨d0, d1, d2, d3, d4, d5, d6⟩ := cells7 HBXw2.out.row
                          have z5 : B < w2.heap.size := (Array.getElem?_eq_some_iff.1 HBXw2.out.row).1
                          obtain ⟨q0, q1, q2, q3⟩ := cells4 R10.out
                          have z10 : wr.heap.size < w2.heap.size := (Array.getElem?_eq_some_iff.1 R10.out).1
                          go_wp2_with fail
                          refine (HHX.out _ HG2.out (HBXw2.out.of.mono (wo_sub _ _))).mono ?_
                          rintro e w3 ⟨v1, v2, rfl, hof, hax, hb3⟩
                          obtain ⟨al2, cl2, ar2, cr2, ad2, cd2, rfl⟩ := hof.hs_form
                          have HOF := Lib.hid hof
                          have HB3 := Lib.hid hb3
                          clear hof hax hb3 q0 q1 q2 q3 z10
                          clear c0 c1 c2 c3 z3 d0 d1 d2 d3 d4 d5 d6 z5
                          go_wp2_with (first | (refine wpList_store_row rfl (.tmp 7) (.tmp 79) rfl rfl rfl (row_grow HBXwr.out.row (HG2.out.trans HB3.out)) info_hs rfl rfl ?_))
                          intro w4 r4 g4
                          have HX4 : Hid (InBox w4 B hn _) := Lib.hid (InBox.put (Array.getElem?_eq_some_iff.1 HBXwr.out.row).1 HG2.out HB3.out (HOF.out.mono (ov_mono (fun a v e => by cases e) (Grow.refl _))) r4 g4)
                          have HG4 : Hid (Grow w w4) := Lib.hid ((HB.out.trans (HG2.out.trans HB3.out)).grown g4 (fun k hk => by obtain rfl := Option.some.inj hk; exact HBN.out))
                          have R3_w4 := Lib.hid (row_by (row_grow R3_wr.out (HG2.out.trans HB3.out)) g4 (by have := HBW2.out; simp; omega))
                          clear r4 g4
                          go_wp2
                          go_roundw
                          case rel => exact ⟨k + 1, hn, _, by omega, by go_num, HG4.out, HX4.out, (by have h9 := HON.out; rw [Nat.add_assoc] at h9; exact h9), HKN.out, R3_w4.out⟩
                          case measure => simp [intOf]; omega
                        · skip
                          have hb1 : (x.deed == m.deed) = false := by simp [hd1]
                          clear hab hd1
                          go_wp2_with fail
                          refine (HWR.out _ ((Grow.refl wr).alloc _)).mono ?_
                          rintro e w2 ⟨rfl, hb2'⟩
                          have R10 := Lib.hid (row_grow (row_new wr (.cells #[.int .i64 x.kind, .int .i64 x.deed, .int .i64 x.house, .slice xp x.parts.length xq] 39)) hb2')
                          have HG2 := Lib.hid (((Grow.refl wr).alloc (.cells #[.int .i64 x.kind, .int .i64 x.deed, .int .i64 x.house, .slice xp x.parts.length xq] 39)).trans hb2')
                          clear hb2' g0 g1 g2 g3
                          clear c0 c1 c2 c3 z3 d0 d1 d2 d3 d4 d5 d6 z5
                          have R3_w2 := Lib.hid (row_grow R3_wr.out HG2.out)
                          have HBXw2 := Lib.hid (HBXwr.out.grow HG2.out)
                          obtain ⟨c0, c1, c2, c3⟩ := cells4 (R3_w2).out
                          have z3 : w.heap.size < w2.heap.size := (Array.getElem?_eq_some_iff.1 R3_w2.out).1
                          obtain ⟨d0, d1, d2, d3, d4, d5, d6⟩ := cells7 HBXw2.out.row
                          have z5 : B < w2.heap.size := (Array.getElem?_eq_some_iff.1 HBXw2.out.row).1
                          obtain ⟨q0, q1, q2, q3⟩ := cells4 R10.out
                          have z10 : wr.heap.size < w2.heap.size := (Array.getElem?_eq_some_iff.1 R10.out).1
                          go_wp2_with fail
                          refine (HHX.out _ HG2.out (HBXw2.out.of.mono (wo_sub _ _))).mono ?_
                          rintro e w3 ⟨v1, v2, rfl, hof, hax, hb3⟩
                          obtain ⟨al2, cl2, ar2, cr2, ad2, cd2, rfl⟩ := hof.hs_form
                          have HOF := Lib.hid hof
                          have HB3 := Lib.hid hb3
                          clear hof hax hb3 q0 q1 q2 q3 z10
                          clear c0 c1 c2 c3 z3 d0 d1 d2 d3 d4 d5 d6 z5
                          go_wp2_with (first | (refine wpList_store_row rfl (.tmp 7) (.tmp 79) rfl rfl rfl (row_grow HBXwr.out.row (HG2.out.trans HB3.out)) info_hs rfl rfl ?_))
                          intro w4 r4 g4
                          have HX4 : Hid (InBox w4 B hn _) := Lib.hid (InBox.put (Array.getElem?_eq_some_iff.1 HBXwr.out.row).1 HG2.out HB3.out (HOF.out.mono (ov_mono (fun a v e => by cases e) (Grow.refl _))) r4 g4)
                          have HG4 : Hid (Grow w w4) := Lib.hid ((HB.out.trans (HG2.out.trans HB3.out)).grown g4 (fun k hk => by obtain rfl := Option.some.inj hk; exact HBN.out))
                          have R3_w4 := Lib.hid (row_by (row_grow R3_wr.out (HG2.out.trans HB3.out)) g4 (by have := HBW2.out; simp; omega))
                          clear r4 g4
                          go_wp2
                          go_roundw
                          case rel => exact ⟨k + 1, hn, _, by omega, by go_num, HG4.out, HX4.out, (by have h9 := HON.out; rw [Nat.add_assoc] at h9; exact h9), HKN.out, R3_w4.out⟩
                          case measure => simp [intOf]; omega
                    · skip
                      have hbh : (x.house != m.house) = true := by simp [hh]
                      clear hh
                      go_wp2_with fail
                      refine (HWR.out _ ((Grow.refl wr).alloc _)).mono ?_
                      rintro e w2 ⟨rfl, hb2'⟩
                      have R10 := Lib.hid (row_grow (row_new wr (.cells #[.int .i64 x.kind, .int .i64 x.deed, .int .i64 x.house, .slice xp x.parts.length xq] 39)) hb2')
                      have HG2 := Lib.hid (((Grow.refl wr).alloc (.cells #[.int .i64 x.kind, .int .i64 x.deed, .int .i64 x.house, .slice xp x.parts.length xq] 39)).trans hb2')
                      clear hb2' g0 g1 g2 g3
                      clear c0 c1 c2 c3 z3 d0 d1 d2 d3 d4 d5 d6 z5
                      have R3_w2 := Lib.hid (row_grow R3_wr.out HG2.out)
                      have HBXw2 := Lib.hid (HBXwr.out.grow HG2.out)
                      obtain ⟨c0, c1, c2, c3⟩ := cells4 (R3_w2).out
                      have z3 : w.heap.size < w2.heap.size := (Array.getElem?_eq_some_iff.1 R3_w2.out).1
                      obtain ⟨d0, d1, d2, d3, d4, d5, d6⟩ := cells7 HBXw2.out.row
                      have z5 : B < w2.heap.size := (Array.getElem?_eq_some_iff.1 HBXw2.out.row).1
                      obtain ⟨q0, q1, q2, q3⟩ := cells4 R10.out
                      have z10 : wr.heap.size < w2.heap.size := (Array.getElem?_eq_some_iff.1 R10.out).1
                      go_wp2
                      go_ret
                      exact ⟨rfl, HB.out.trans HG2.out⟩
                  · skip
                    have hbw : (wrongM x != 0) = true := by simp [hw]
                    clear hw
                    generalize wrongM x = wm at *
                    go_wp2_with fail
                    refine (HWR.out _ ((Grow.refl wr).alloc _)).mono ?_
                    rintro e w2 ⟨rfl, hb2'⟩
                    have R10 := Lib.hid (row_grow (row_new wr (.cells #[.int .i64 x.kind, .int .i64 x.deed, .int .i64 x.house, .slice xp x.parts.length xq] 39)) hb2')
                    have HG2 := Lib.hid (((Grow.refl wr).alloc (.cells #[.int .i64 x.kind, .int .i64 x.deed, .int .i64 x.house, .slice xp x.parts.length xq] 39)).trans hb2')
                    clear hb2' g0 g1 g2 g3
                    clear c0 c1 c2 c3 z3 d0 d1 d2 d3 d4 d5 d6 z5
                    have R3_w2 := Lib.hid (row_grow R3_wr.out HG2.out)
                    have HBXw2 := Lib.hid (HBXwr.out.grow HG2.out)
                    obtain ⟨c0, c1, c2, c3⟩ := cells4 (R3_w2).out
                    have z3 : w.heap.size < w2.heap.size := (Array.getElem?_eq_some_iff.1 R3_w2.out).1
                    obtain ⟨d0, d1, d2, d3, d4, d5, d6⟩ := cells7 HBXw2.out.row
                    have z5 : B < w2.heap.size := (Array.getElem?_eq_some_iff.1 HBXw2.out.row).1
                    obtain ⟨q0, q1, q2, q3⟩ := cells4 R10.out
                    have z10 : wr.heap.size < w2.heap.size := (Array.getElem?_eq_some_iff.1 R10.out).1
                    go_wp2
                    go_ret
                    exact ⟨rfl, HB.out.trans HG2.out⟩
                · skip
                  clear hel
                  obtain ⟨w1d, w2e, w3k⟩ : m.deed ∈ (hearH hx ⟨4, m.deed, m.house, []⟩).done ∧ hearM hx m.house ⟨4, m.deed, m.house, []⟩ = sayE 6 m.deed m.house ∧ ∀ key, whoE (hearH hx ⟨4, m.deed, m.house, []⟩).ready key ≠ m.deed := ⟨(word_law (me := m.house) HOX.out.made HOX.out.fine HD0.out HKX.out m.house 0).1, (word_law (me := m.house) HOX.out.made HOX.out.fine HD0.out HKX.out m.house 0).2.1, fun key => (word_law (me := m.house) HOX.out.made HOX.out.fine HD0.out HKX.out m.house key).2.2⟩
                  have hhc := (fun (W : World) (hh : Of Ty.hs W.cell? (.agg #[.slice xl hx.log.length xk, .int .i64 hx.sums.a, .int .i64 hx.sums.b, .int .i64 hx.sums.c, .int .i64 hx.sums.d, .slice xr hx.ready.length xt, .slice xd hx.done.length xu]) hx) => house_hear (me := m.house) (m := ⟨4, m.deed, m.house, []⟩) (vm := .agg #[.int .i64 4, .int .i64 m.deed, .int .i64 m.house, .slice none 0 0]) W hh ⟨_, rfl, _, rfl, (show I64 4 by unfold I64; decide), HMD.out, HME.out, Sl.nil _ _⟩ HOX.out.keys (by intro p hp; simp at hp) (by have := HOX.out.len; have := HSM.out; omega) (fun y hy => by have := HOX.out.small y hy; omega) (by simp) HME.out HOX.out.made)
                  rw [w2e] at hhc
                  have HHC := Lib.hid hhc
                  clear hhc w2e
                  generalize hearH hx ⟨4, m.deed, m.house, []⟩ = hn at *
                  have HIN := Lib.hid w1d
                  have HWK := Lib.hid w3k
                  clear w1d w3k
                  go_wp2_with fail
                  refine (HHC.out _ (HBXwr.out.of.mono (wo_sub _ _))).mono ?_
                  rintro e w3 ⟨v1, v2, rfl, hof, hbm, hb3⟩
                  obtain ⟨nl, nk, nr, nt, nd, nu, rfl⟩ := hof.hs_form
                  have HOF := Lib.hid hof
                  have HB3 := Lib.hid hb3
                  have hbm' := hbm.mono (ov_none hb3)
                  unfold sayE at hbm hbm'
                  obtain ⟨ab, cb, rfl, b1, b2, -, hbl⟩ := hbm'
                  obtain ⟨bb, ob, vb, rfl, s0, -⟩ := Mss.at_ hbl 0 (by simp)
                  simp only [List.getElem_cons_zero, Nat.zero_mul, Nat.add_zero, List.length_cons, List.length_nil, Nat.zero_add] at s0 b1
                  have S0 := Lib.hid s0
                  have HBM := Lib.hid (hbm.mono (win_ov _ _))
                  simp only [List.length_cons, List.length_nil, Nat.zero_add]
                  clear hof hbm hb3 hbl b1 b2 s0
                  clear c0 c1 c2 c3 z3 d0 d1 d2 d3 d4 d5 d6 z5
                  go_wp2_with (first | (refine wpList_store_row rfl (.tmp 7) (.tmp 92) rfl rfl rfl (row_grow HBXwr.out.row HB3.out) info_hs rfl rfl ?_))
                  intro w4 r4 g4
                  have HBXw4 : Hid (InBox w4 B hn _) := Lib.hid (InBox.put (Array.getElem?_eq_some_iff.1 HBXwr.out.row).1 (Grow.refl wr) HB3.out (HOF.out.mono (ov_mono (fun a v e => by cases e) (Grow.refl _))) r4 g4)
                  have HG4 : Hid (Grow w w4) := Lib.hid ((HB.out.trans HB3.out).grown g4 (fun k hk => by obtain rfl := Option.some.inj hk; exact HBN.out))
                  have R3_w4 := Lib.hid (row_by (row_grow R3_wr.out HB3.out) g4 (by have := HBW2.out; simp; omega))
                  have S4 : Hid (w4.cell? ⟨bb, ob, none⟩ = some (.int .i64 6)) := Lib.hid (by
                    obtain ⟨a9, c9, e9, -, -, -, hl9⟩ := HBM.out.mono (win_set g4 (.inl (Array.getElem?_eq_some_iff.1 HBXwr.out.row).1))
                    simp only [Value.slice.injEq] at e9
                    obtain ⟨rfl, -, rfl⟩ := e9
                    obtain ⟨b9, o9, v9, e9, s9, -⟩ := Mss.at_ (fun i x h => hl9 i x h) 0 (by simp)
                    obtain ⟨rfl, rfl⟩ : bb = b9 ∧ ob = o9 := by simpa using e9
                    simpa using win_sub _ _ _ _ _ s9)
                  clear r4 g4 S0
                  obtain ⟨c0, c1, c2, c3⟩ := cells4 (R3_w4).out
                  have z3 : w.heap.size < w4.heap.size := (Array.getElem?_eq_some_iff.1 R3_w4.out).1
                  obtain ⟨d0, d1, d2, d3, d4, d5, d6⟩ := cells7 HBXw4.out.row
                  have z5 : B < w4.heap.size := (Array.getElem?_eq_some_iff.1 HBXw4.out.row).1
                  have HDN := Lib.hid ((Of.hs_log HBXw4.out.of).2.2)
                  obtain ⟨nd', nu', hde, n1, n2, -, hdl⟩ := (Of.hs_log HBXw4.out.of).2.2
                  simp only [Value.slice.injEq, true_and] at hde
                  obtain ⟨rfl, rfl⟩ := hde
                  unfold maxLen at n2
                  go_wp2
                  obtain ⟨wo9, rfl⟩ : ∃ x : World, x = wr := ⟨_, rfl⟩
                  go_loopw [12, 14, 97] (fun f _ i wr => ∃ j : Nat, j ≤ hn.done.length ∧ i = .int .i64 j ∧ f = .bool (decide (m.deed ∈ hn.done.take j)) ∧ Grow w4 wr) (fun _ _ i _ => hn.done.length - (intOf i).toNat)
                  case atStart => exact ⟨0, by omega, rfl, by simp, Grow.refl _⟩
                  case round =>
                    obtain ⟨j, hj', rfl, rfl, hb⟩ := hrel
                    obtain ⟨wx, rfl⟩ : ∃ x : World, x = wr := ⟨_, rfl⟩
                    have R3_wx := Lib.hid (row_grow R3_w4.out hb)
                    have HBXwx := Lib.hid (HBXw4.out.grow hb)
                    clear c0 c1 c2 c3 z3 d0 d1 d2 d3 d4 d5 d6 z5
                    obtain ⟨c0, c1, c2, c3⟩ := cells4 (R3_wx).out
                    have z3 : w.heap.size < wx.heap.size := (Array.getElem?_eq_some_iff.1 R3_wx.out).1
                    obtain ⟨d0, d1, d2, d3, d4, d5, d6⟩ := cells7 HBXwx.out.row
                    have z5 : B < wx.heap.size := (Array.getElem?_eq_some_iff.1 HBXwx.out.row).1
                    by_cases hlt2 : j < hn.done.length
                    · skip
                      obtain ⟨b, o, rfl, e0, -⟩ := intAt hdl j hlt2
                      replace e0 := hb.sub _ _ (wo_sub _ _ _ _ e0)
                      have HTK : Hid (decide (m.deed ∈ hn.done.take (j + 1)) = (decide (m.deed ∈ hn.done.take j) || (hn.done[j] == m.deed))) := Lib.hid (by
                        rw [List.take_succ_eq_append_getElem hlt2, Bool.eq_iff_iff]
                        simp only [decide_eq_true_eq, Bool.or_eq_true, beq_iff_eq, List.mem_append, List.mem_singleton]
                        exact or_congr Iff.rfl ⟨Eq.symm, Eq.symm⟩)
                      clear hdl
                      generalize hn.done[j] = dj at *
                      generalize decide (m.deed ∈ hn.done.take j) = acc at *
                      cases acc
                      · go_wp2_with fail
                        go_roundw
                        case rel => exact ⟨j + 1, by omega, by go_num, by rw [HTK.out]; rfl, hb⟩
                        case measure => simp [intOf]; omega
                      · go_wp2_with fail
                        go_roundw
                        case rel => exact ⟨j + 1, by omega, by go_num, by rw [HTK.out]; rfl, hb⟩
                        case measure => simp [intOf]; omega
                    · skip
                      have hjn : j = hn.done.length := by omega
                      have hdd : decide (m.deed ∈ hn.done.take j) = true := by rw [List.take_of_length_le (by omega)]; exact decide_eq_true HIN.out
                      rw [hdd]
                      clear hdd hdl
                      have s4 := hb.sub _ _ S4.out
                      have zs := World.block_lt_of_cell? wx _ s4
                      simp only at zs
                      have p1 := hb.sub _ _ (HG4.out.sub _ _ HP0.out)
                      have zp := World.block_lt_of_cell? wx _ p1
                      simp only at zp
                      have HWH : Hid (∀ W, Grow wx W → Calls Try.prog 30 #[.agg #[.slice nl hn.log.length nk, .int .i64 hn.sums.a, .int .i64 hn.sums.b, .int .i64 hn.sums.c, .int .i64 hn.sums.d, .slice nr hn.ready.length nt, .slice nd hn.done.length nu], .int .i64 p0.k] W fun e w' => e = .returned (.int .i64 (whoE hn.ready p0.k)) ∧ Grow W w') := fun W hW => ref_who W (HBXwx.out.of.mono ((wo_sub _ _).trans hW.sub))
                      have hne : (whoE hn.ready p0.k != m.deed) = true := by simpa using HWK.out p0.k
                      generalize whoE hn.ready p0.k = wh at *
                      have HS2 : Hid (∀ W, Grow wx W → W.cell? ⟨B, 0, none⟩ = some (.slice nl hn.log.length nk) ∧ W.cell? ⟨B, 1, none⟩ = some (.int .i64 hn.sums.a) ∧ W.cell? ⟨B, 2, none⟩ = some (.int .i64 hn.sums.b) ∧ W.cell? ⟨B, 3, none⟩ = some (.int .i64 hn.sums.c) ∧ W.cell? ⟨B, 4, none⟩ = some (.int .i64 hn.sums.d) ∧ W.cell? ⟨B, 5, none⟩ = some (.slice nr hn.ready.length nt) ∧ W.cell? ⟨B, 6, none⟩ = some (.slice nd hn.done.length nu) ∧ W.cell? ⟨w.heap.size, 1, none⟩ = some (.int .i64 m.deed) ∧ W.cell? ⟨w.heap.size, 3, none⟩ = some (.slice (some ⟨bp, op, none⟩) m.parts.length cp) ∧ W.cell? ⟨bb, ob, none⟩ = some (.int .i64 6) ∧ W.cell? ⟨bp, op + 1, none⟩ = some (.int .i64 p0.k)) := fun W hW => ⟨hW.sub _ _ d0, hW.sub _ _ d1, hW.sub _ _ d2, hW.sub _ _ d3, hW.sub _ _ d4, hW.sub _ _ d5, hW.sub _ _ d6, hW.sub _ _ c1, hW.sub _ _ c3, hW.sub _ _ s4, hW.sub _ _ p1⟩
                      go_wp2_with fail
                      go_region_held3 (fun w' => w'.cell? ⟨B, 0, none⟩ = some (.slice nl hn.log.length nk) ∧ w'.cell? ⟨B, 1, none⟩ = some (.int .i64 hn.sums.a) ∧ w'.cell? ⟨B, 2, none⟩ = some (.int .i64 hn.sums.b) ∧ w'.cell? ⟨B, 3, none⟩ = some (.int .i64 hn.sums.c) ∧ w'.cell? ⟨B, 4, none⟩ = some (.int .i64 hn.sums.d) ∧ w'.cell? ⟨B, 5, none⟩ = some (.slice nr hn.ready.length nt) ∧ w'.cell? ⟨B, 6, none⟩ = some (.slice nd hn.done.length nu) ∧ w'.cell? ⟨w.heap.size, 1, none⟩ = some (.int .i64 m.deed) ∧ w'.cell? ⟨w.heap.size, 3, none⟩ = some (.slice (some ⟨bp, op, none⟩) m.parts.length cp) ∧ w'.cell? ⟨bb, ob, none⟩ = some (.int .i64 6) ∧ w'.cell? ⟨bp, op + 1, none⟩ = some (.int .i64 p0.k)) (first | assumption | exact HS2.out _ (by repeat (first | with_reducible assumption | with_reducible exact Grow.refl _ | with_reducible apply Grow.drewN | with_reducible apply Grow.drew | with_reducible apply Grow.alloc | (refine Grow.trans ?_ (by with_reducible assumption))))) (first | (go_at_call 30; refine (HWH.out _ (by repeat (first | with_reducible assumption | with_reducible exact Grow.refl _ | with_reducible apply Grow.drewN | with_reducible apply Grow.drew | with_reducible apply Grow.alloc | (refine Grow.trans ?_ (by with_reducible assumption))))).mono ?_; rintro e wa ⟨rfl, hba⟩))
                      go_wp2
                      go_ret
                      exact ⟨rfl, HG4.out.trans (hb.trans (by repeat (first | with_reducible assumption | with_reducible exact Grow.refl _ | with_reducible apply Grow.drewN | with_reducible apply Grow.drew | with_reducible apply Grow.alloc | (refine Grow.trans ?_ (by with_reducible assumption)))))⟩
            · skip
              have hb9 : (y.kind != 2) = true := by simp [hy2]
              clear hyk hy2
              simp only [List.length_cons, List.length_nil, Nat.zero_add]
              go_wp2
              go_ret
              exact ⟨rfl, HG7.out⟩
      · skip
        intro K HK'
        have HK := Lib.hid HK'
        clear HK'
        skip
        try simp only [List.getElem_toArray, List.getElem_cons_succ, List.getElem_cons_zero]
        go_simp
        have RA := Lib.hid (row_new wd (.cells #[.slice none 0 0, .int .i64 0, .int .i64 0, .int .i64 0, .int .i64 0, .slice none 0 0, .slice none 0 0] 29))
        refine HK.out _ _ ⟨fun _ => HS.out _ (GD.alloc _), ?_⟩
        clear HK K
        try simp only [Act.put, List.getElem_toArray, List.getElem_cons_succ, List.getElem_cons_zero, List.setIfInBounds_toArray, List.set_cons_zero, List.set_cons_succ]
        refine but_one (i := 1) (by kernel_rfl) rfl ?_
        intro K HK'
        have HK := Lib.hid HK'
        clear HK'
        skip
        try simp only [List.getElem_toArray, List.getElem_cons_succ, List.getElem_cons_zero]
        go_simp
        go_at_call 29
        refine (HRH.out _ (HBW.out.trans (GD.alloc _))).mono ?_
        rintro e wA ⟨vh, rfl, hH, hbA⟩
        obtain ⟨hl, hk, hr, ht, hd, hu, rfl⟩ := hH.hs_form
        have HH := Lib.hid hH
        have GA := Grow.trans (GD.alloc _) hbA
        have RA1 := Lib.hid (row_grow RA.out hbA)
        clear hH
        refine HK.out _ _ ⟨fun _ => HS.out _ GA, ?_⟩
        clear HK K
        try simp only [Act.put, List.getElem_toArray, List.getElem_cons_succ, List.getElem_cons_zero, List.setIfInBounds_toArray, List.set_cons_zero, List.set_cons_succ]
        refine but_one (i := 5) (by kernel_rfl) rfl ?_
        intro K HK'
        have HK := Lib.hid HK'
        clear HK'
        skip
        try simp only [List.getElem_toArray, List.getElem_cons_succ, List.getElem_cons_zero]
        go_simp
        go_at_call 50
        refine (HHE.out _ _ (HBW.out.trans GA) (HH.out.mono (Grow.refl wA).sub)).mono ?_
        rintro e wC ⟨v1, v2, rfl, hx, ha, hbC⟩
        obtain ⟨xl, xk, xr, xt, xd, xu, rfl⟩ := hx.hs_form
        obtain ⟨aa, ca, rfl, -⟩ := id ha
        have HX0 := Lib.hid (hx.mono (win_ov _ _))
        have HA0 := Lib.hid (ha.mono (win_ov _ _))
        have GC := Grow.trans GA hbC
        have RC := Lib.hid (row_grow RA1.out hbC)
        clear hx ha
        refine HK.out _ _ ⟨fun _ => HS.out _ GC, ?_⟩
        clear HK K
        try simp only [Act.put, List.getElem_toArray, List.getElem_cons_succ, List.getElem_cons_zero, List.setIfInBounds_toArray, List.set_cons_zero, List.set_cons_succ]
        refine but_take (i := 6) (v := ?_) 14 rfl (by kernel_rfl) (by kernel_rfl) (by kernel_rfl) (by kernel_rfl) (by kernel_rfl) (fun _ _ _ h => h) (HS.out _ GC) (Or.inl ⟨by rfl, ?_⟩) ?_
        rotate_left
        · (intro w' hSw; (try dsimp only at hSw); obtain ⟨hs0, hs1, hs2, hs3⟩ := hSw; go_simp <;> with_reducible rfl)
        try simp only [Act.put, List.getElem_toArray, List.getElem_cons_succ, List.getElem_cons_zero, List.setIfInBounds_toArray, List.set_cons_zero, List.set_cons_succ]
        refine but_take (i := 7) (v := ?_) 14 rfl (by kernel_rfl) (by kernel_rfl) (by kernel_rfl) (by kernel_rfl) (by kernel_rfl) (fun _ _ _ h => h) (HS.out _ GC) (Or.inl ⟨by rfl, ?_⟩) ?_
        rotate_left
        · (intro w' hSw; (try dsimp only at hSw); obtain ⟨hs0, hs1, hs2, hs3⟩ := hSw; go_simp <;> with_reducible rfl)
        try simp only [Act.put, List.getElem_toArray, List.getElem_cons_succ, List.getElem_cons_zero, List.setIfInBounds_toArray, List.set_cons_zero, List.set_cons_succ]
        refine but_take (i := 8) (v := ?_) 14 rfl (by kernel_rfl) (by kernel_rfl) (by kernel_rfl) (by kernel_rfl) (by kernel_rfl) (fun _ _ _ h => h) (HS.out _ GC) (Or.inl ⟨by rfl, ?_⟩) ?_
        rotate_left
        · (intro w' hSw; (try dsimp only at hSw); obtain ⟨hs0, hs1, hs2, hs3⟩ := hSw; go_simp <;> with_reducible rfl)
        try simp only [Act.put, List.getElem_toArray, List.getElem_cons_succ, List.getElem_cons_zero, List.setIfInBounds_toArray, List.set_cons_zero, List.set_cons_succ]
        refine but_one (i := 10) (by kernel_rfl) rfl ?_
        intro K HK'
        have HK := Lib.hid HK'
        clear HK'
        refine wanted_go rfl ?_
        try simp only [List.getElem_toArray, List.getElem_cons_succ, List.getElem_cons_zero]
        refine wp_store_row (.tmp 7) (.tmp 33) rfl rfl rfl RC.out info_hs rfl rfl ?_
        intro w7 r7 g7
        have HXO := Lib.hid ((HX0.out.mono (win_set g7 (.inl (Array.getElem?_eq_some_iff.1 RA1.out).1))).mono (win_wo (.inl (Array.getElem?_eq_some_iff.1 RA1.out).1)))
        have HXF := Lib.hid ((HX0.out.mono (win_set g7 (.inl (Array.getElem?_eq_some_iff.1 RA1.out).1))).mono (win_sub _ _ _))
        have HAF := Lib.hid ((HA0.out.mono (win_set g7 (.inl (Array.getElem?_eq_some_iff.1 RA1.out).1))).mono (win_sub _ _ _))
        have GF := Lib.hid (Grow.grown GC g7 (fun k hk => by obtain rfl := Option.some.inj hk; exact GD.size))
        have HBN : Hid (w.heap.size ≤ wd.heap.size) := Lib.hid (HBW.out.trans GD).size
        have HBW2 : Hid (w.heap.size < wd.heap.size) := Lib.hid (by have := (Array.getElem?_eq_some_iff.1 R3_2.out).1; have := GD.size; omega)
        have R7 := Lib.hid r7
        clear r7 g7
        refine HK.out _ _ ⟨fun _ => HS.out _ GF.out, ?_⟩
        clear HK K
        try simp only [Act.put]
        refine but_one (i := 11) (by kernel_rfl) rfl ?_
        intro K HK'
        have HK := Lib.hid HK'
        clear HK'
        skip
        try simp only [List.getElem_toArray, List.getElem_cons_succ, List.getElem_cons_zero]
        go_simp
        refine HK.out _ _ ⟨fun h => absurd rfl h, ?_⟩
        clear HK K
        try simp only [Act.put, List.getElem_toArray, List.getElem_cons_succ, List.getElem_cons_zero, List.setIfInBounds_toArray, List.set_cons_zero, List.set_cons_succ]
        refine but_done (by kernel_rfl) ?_
        have HG7 : Hid (Grow w w7) := Lib.hid (HBW.out.trans GF.out)
        have R3_w7 := Lib.hid (row_grow R3_2.out GF.out)
        clear HH
        have HBXw7 : Hid (InBox w7 _ h' _) := Lib.hid ⟨R7.out, HXO.out⟩
        obtain ⟨B, hB⟩ : ∃ B, B = wd.heap.size := ⟨_, rfl⟩
        rw [← hB] at HBXw7 HBN HBW2 ⊢
        clear hB
        obtain ⟨c0, c1, c2, c3⟩ := cells4 (R3_w7).out
        have z3 : w.heap.size < w7.heap.size := (Array.getElem?_eq_some_iff.1 R3_w7.out).1
        obtain ⟨d0, d1, d2, d3, d4, d5, d6⟩ := cells7 HBXw7.out.row
        have z5 : B < w7.heap.size := (Array.getElem?_eq_some_iff.1 HBXw7.out.row).1
        rcases HONE.out with e0 | ⟨y, ey, hyk⟩
        · subst e0
          go_wp2
          go_ret
          exact ⟨rfl, HG7.out⟩
        · skip
          subst ey
          obtain ⟨aa2, ca2, hae, a1, a2, -, hael⟩ := id HAF.out
          simp only [Value.slice.injEq, true_and] at hae
          obtain ⟨rfl, rfl⟩ := hae
          obtain ⟨ba, oa, va, rfl, y0, -⟩ := Mss.at_ hael 0 (by simp)
          simp only [List.getElem_cons_zero, Nat.zero_mul, Nat.add_zero] at y0
          have za := World.block_lt_of_cell? w7 _ y0
          simp only at za
          clear hael a1 a2
          by_cases hy2 : y.kind = 2
          · skip
            have HK0 := Lib.hid (hyk hy2)
            rw [hy2] at y0
            clear hyk hy2
            simp only [List.length_cons, List.length_nil, Nat.zero_add]
            go_wp2
            go_loopw [6, 47] (fun _ i wr => ∃ (k : Nat) (hx : Hs) (cs : Array Value), k ≤ ms.length ∧ i = .int .i64 k ∧ Grow w wr ∧ InBox wr B hx cs ∧ HrOk hx (61 + k) ∧ Kept hx m.deed ∧ wr.heap[w.heap.size]? = some (.cells #[.int .i64 m.kind, .int .i64 m.deed, .int .i64 m.house, .slice (some ⟨bp, op, none⟩) m.parts.length cp] 39 (0, 0))) (fun _ i _ => ms.length - (intOf i).toNat)
            case atStart => exact ⟨0, h', _, by omega, rfl, HG7.out, HBXw7.out, HO2.out, HK0.out, R3_w7.out⟩
            case round =>
              obtain ⟨k, hx, cs, hk', rfl, hb, hbox, hok2, hkept, hr3⟩ := hrel
              obtain ⟨xl, xk, xr, xt, xd, xu, rfl⟩ := hbox.cells
              have HBXwr := Lib.hid hbox
              have R3_wr := Lib.hid hr3
              have HOX := Lib.hid hok2
              have HKX := Lib.hid hkept
              have HB := Lib.hid hb
              clear hr3 hbox hok2 hkept
              obtain ⟨c0, c1, c2, c3⟩ := cells4 (R3_wr).out
              have z3 : w.heap.size < wr.heap.size := (Array.getElem?_eq_some_iff.1 R3_wr.out).1
              obtain ⟨d0, d1, d2, d3, d4, d5, d6⟩ := cells7 HBXwr.out.row
              have z5 : B < wr.heap.size := (Array.getElem?_eq_some_iff.1 HBXwr.out.row).1
              by_cases hlt : k < ms.length
              · skip
                obtain ⟨b, o, vp, rfl, g0, g1, g2, g3, i0, i1, i2, hP⟩ := Mss.at_ hel k hlt
                obtain ⟨xp, xq, rfl, -⟩ := id hP
                replace g0 := hb.sub _ _ g0
                replace g1 := hb.sub _ _ g1
                replace g2 := hb.sub _ _ g2
                replace g3 := hb.sub _ _ g3
                clear hel
                generalize ms[k] = x at *
                have hx0 : Of Ty.ms w.cell? (.agg #[.int .i64 x.kind, .int .i64 x.deed, .int .i64 x.house, .slice xp x.parts.length xq]) x := ⟨_, rfl, _, rfl, i0, i1, i2, hP⟩
                have HX0 := Lib.hid hx0
                have HWR := Lib.hid (fun (W : World) (hW : Grow wr W) => ref_wrong W (hx0.mono (hb.trans hW).sub))
                have HLT : Hid (k < ms.length) := Lib.hid hlt
                clear hb hP hx0 i0 i1 i2
                by_cases hw : wrongM x = 0
                · skip
                  have hbw : (wrongM x != 0) = false := by simp [hw]
                  have HR := Lib.hid (right_m.1 hw)
                  clear hw
                  generalize wrongM x = wm at *
                  by_cases hh : x.house = m.house
                  · skip
                    have hbh : (x.house != m.house) = false := by simp [hh]
                    clear hh
                    by_cases hab : x.deed = m.deed ∧ x.kind = 5
                    · skip
                      have hb1 : (x.deed == m.deed) = true := by simp [hab.1]
                      have hb2 : (x.kind == 5) = true := by simp [hab.2]
                      clear hab
                      go_wp2_with fail
                      refine (HWR.out _ ((Grow.refl wr).alloc _)).mono ?_
                      rintro e w2 ⟨rfl, hb2'⟩
                      have R10 := Lib.hid (row_grow (row_new wr (.cells #[.int .i64 x.kind, .int .i64 x.deed, .int .i64 x.house, .slice xp x.parts.length xq] 39)) hb2')
                      have HG2 := Lib.hid (((Grow.refl wr).alloc (.cells #[.int .i64 x.kind, .int .i64 x.deed, .int .i64 x.house, .slice xp x.parts.length xq] 39)).trans hb2')
                      clear hb2' g0 g1 g2 g3
                      clear c0 c1 c2 c3 z3 d0 d1 d2 d3 d4 d5 d6 z5
                      have R3_w2 := Lib.hid (row_grow R3_wr.out HG2.out)
                      have HBXw2 := Lib.hid (HBXwr.out.grow HG2.out)
                      obtain ⟨c0, c1, c2, c3⟩ := cells4 (R3_w2).out
                      have z3 : w.heap.size < w2.heap.size := (Array.getElem?_eq_some_iff.1 R3_w2.out).1
                      obtain ⟨d0, d1, d2, d3, d4, d5, d6⟩ := cells7 HBXw2.out.row
                      have z5 : B < w2.heap.size := (Array.getElem?_eq_some_iff.1 HBXw2.out.row).1
                      obtain ⟨q0, q1, q2, q3⟩ := cells4 R10.out
                      have z10 : wr.heap.size < w2.heap.size := (Array.getElem?_eq_some_iff.1 R10.out).1
                      go_wp2
                      go_ret
                      exact ⟨rfl, HB.out.trans HG2.out⟩
                    · skip
                      have HHX := Lib.hid (fun (W : World) (hW : Grow wr W) (hh : Of Ty.hs W.cell? (.agg #[.slice xl hx.log.length xk, .int .i64 hx.sums.a, .int .i64 hx.sums.b, .int .i64 hx.sums.c, .int .i64 hx.sums.d, .slice xr hx.ready.length xt, .slice xd hx.done.length xu]) hx) => house_hear (me := m.house) W hh (HX0.out.mono (HB.out.trans hW).sub) HOX.out.keys HR.out.keys (by have := HOX.out.len; have := HSM.out; have := HLT.out; omega) (fun y hy => by have := HOX.out.small y hy; omega) (by have := HR.out.len'; omega) HME.out HOX.out.made)
                      have HON := Lib.hid (HOX.out.hear HR.out)
                      have HKN := Lib.hid (kept_hear HOX.out.made HKX.out hab)
                      generalize hearM hx m.house x = ax at *
                      generalize hearH hx x = hn at *
                      by_cases hd1 : x.deed = m.deed
                      · skip
                        have hb1 : (x.deed == m.deed) = true := by simp [hd1]
                        have hb2 : (x.kind == 5) = false := by simpa using fun e => hab ⟨hd1, e⟩
                        clear hab hd1
                        go_wp2_with fail
                        refine (HWR.out _ ((Grow.refl wr).alloc _)).mono ?_
                        rintro e w2 ⟨rfl, hb2'⟩
                        have R10 := Lib.hid (row_grow (row_new wr (.cells #[.int .i64 x.kind, .int .i64 x.deed, .int .i64 x.house, .slice xp x.parts.length xq] 39)) hb2')
                        have HG2 := Lib.hid (((Grow.refl wr).alloc (.cells #[.int .i64 x.kind, .int .i64 x.deed, .int .i64 x.house, .slice xp x.parts.length xq] 39)).trans hb2')
                        clear hb2' g0 g1 g2 g3
                        clear c0 c1 c2 c3 z3 d0 d1 d2 d3 d4 d5 d6 z5
                        have R3_w2 := Lib.hid (row_grow R3_wr.out HG2.out)
                        have HBXw2 := Lib.hid (HBXwr.out.grow HG2.out)
                        obtain ⟨c0, c1, c2, c3⟩ := cells4 (R3_w2).out
                        have z3 : w.heap.size < w2.heap.size := (Array.getElem?_eq_some_iff.1 R3_w2.out).1
                        obtain ⟨d0, d1, d2, d3, d4, d5, d6⟩ := cells7 HBXw2.out.row
                        have z5 : B < w2.heap.size := (Array.getElem?_eq_some_iff.1 HBXw2.out.row).1
                        obtain ⟨q0, q1, q2, q3⟩ := cells4 R10.out
                        have z10 : wr.heap.size < w2.heap.size := (Array.getElem?_eq_some_iff.1 R10.out).1
                        go_wp2_with fail
                        refine (HHX.out _ HG2.out (HBXw2.out.of.mono (wo_sub _ _))).mono ?_
                        rintro e w3 ⟨v1, v2, rfl, hof, hax, hb3⟩
                        obtain ⟨al2, cl2, ar2, cr2, ad2, cd2, rfl⟩ := hof.hs_form
                        have HOF := Lib.hid hof
                        have HB3 := Lib.hid hb3
                        clear hof hax hb3 q0 q1 q2 q3 z10
                        clear c0 c1 c2 c3 z3 d0 d1 d2 d3 d4 d5 d6 z5
                        go_wp2_with (first | (refine wpList_store_row rfl (.tmp 7) (.tmp 79) rfl rfl rfl (row_grow HBXwr.out.row (HG2.out.trans HB3.out)) info_hs rfl rfl ?_))
                        intro w4 r4 g4
                        have HX4 : Hid (InBox w4 B hn _) := Lib.hid (InBox.put (Array.getElem?_eq_some_iff.1 HBXwr.out.row).1 HG2.out HB3.out (HOF.out.mono (ov_mono (fun a v e => by cases e) (Grow.refl _))) r4 g4)
                        have HG4 : Hid (Grow w w4) := Lib.hid ((HB.out.trans (HG2.out.trans HB3.out)).grown g4 (fun k hk => by obtain rfl := Option.some.inj hk; exact HBN.out))
                        have R3_w4 := Lib.hid (row_by (row_grow R3_wr.out (HG2.out.trans HB3.out)) g4 (by have := HBW2.out; simp; omega))
                        clear r4 g4
                        go_wp2
                        go_roundw
                        case rel => exact ⟨k + 1, hn, _, by omega, by go_num, HG4.out, HX4.out, (by have h9 := HON.out; rw [Nat.add_assoc] at h9; exact h9), HKN.out, R3_w4.out⟩
                        case measure => simp [intOf]; omega
                      · skip
                        have hb1 : (x.deed == m.deed) = false := by simp [hd1]
                        clear hab hd1
                        go_wp2_with fail
                        refine (HWR.out _ ((Grow.refl wr).alloc _)).mono ?_
                        rintro e w2 ⟨rfl, hb2'⟩
                        have R10 := Lib.hid (row_grow (row_new wr (.cells #[.int .i64 x.kind, .int .i64 x.deed, .int .i64 x.house, .slice xp x.parts.length xq] 39)) hb2')
                        have HG2 := Lib.hid (((Grow.refl wr).alloc (.cells #[.int .i64 x.kind, .int .i64 x.deed, .int .i64 x.house, .slice xp x.parts.length xq] 39)).trans hb2')
                        clear hb2' g0 g1 g2 g3
                        clear c0 c1 c2 c3 z3 d0 d1 d2 d3 d4 d5 d6 z5
                        have R3_w2 := Lib.hid (row_grow R3_wr.out HG2.out)
                        have HBXw2 := Lib.hid (HBXwr.out.grow HG2.out)
                        obtain ⟨c0, c1, c2, c3⟩ := cells4 (R3_w2).out
                        have z3 : w.heap.size < w2.heap.size := (Array.getElem?_eq_some_iff.1 R3_w2.out).1
                        obtain ⟨d0, d1, d2, d3, d4, d5, d6⟩ := cells7 HBXw2.out.row
                        have z5 : B < w2.heap.size := (Array.getElem?_eq_some_iff.1 HBXw2.out.row).1
                        obtain ⟨q0, q1, q2, q3⟩ := cells4 R10.out
                        have z10 : wr.heap.size < w2.heap.size := (Array.getElem?_eq_some_iff.1 R10.out).1
                        go_wp2_with fail
                        refine (HHX.out _ HG2.out (HBXw2.out.of.mono (wo_sub _ _))).mono ?_
                        rintro e w3 ⟨v1, v2, rfl, hof, hax, hb3⟩
                        obtain ⟨al2, cl2, ar2, cr2, ad2, cd2, rfl⟩ := hof.hs_form
                        have HOF := Lib.hid hof
                        have HB3 := Lib.hid hb3
                        clear hof hax hb3 q0 q1 q2 q3 z10
                        clear c0 c1 c2 c3 z3 d0 d1 d2 d3 d4 d5 d6 z5
                        go_wp2_with (first | (refine wpList_store_row rfl (.tmp 7) (.tmp 79) rfl rfl rfl (row_grow HBXwr.out.row (HG2.out.trans HB3.out)) info_hs rfl rfl ?_))
                        intro w4 r4 g4
                        have HX4 : Hid (InBox w4 B hn _) := Lib.hid (InBox.put (Array.getElem?_eq_some_iff.1 HBXwr.out.row).1 HG2.out HB3.out (HOF.out.mono (ov_mono (fun a v e => by cases e) (Grow.refl _))) r4 g4)
                        have HG4 : Hid (Grow w w4) := Lib.hid ((HB.out.trans (HG2.out.trans HB3.out)).grown g4 (fun k hk => by obtain rfl := Option.some.inj hk; exact HBN.out))
                        have R3_w4 := Lib.hid (row_by (row_grow R3_wr.out (HG2.out.trans HB3.out)) g4 (by have := HBW2.out; simp; omega))
                        clear r4 g4
                        go_wp2
                        go_roundw
                        case rel => exact ⟨k + 1, hn, _, by omega, by go_num, HG4.out, HX4.out, (by have h9 := HON.out; rw [Nat.add_assoc] at h9; exact h9), HKN.out, R3_w4.out⟩
                        case measure => simp [intOf]; omega
                  · skip
                    have hbh : (x.house != m.house) = true := by simp [hh]
                    clear hh
                    go_wp2_with fail
                    refine (HWR.out _ ((Grow.refl wr).alloc _)).mono ?_
                    rintro e w2 ⟨rfl, hb2'⟩
                    have R10 := Lib.hid (row_grow (row_new wr (.cells #[.int .i64 x.kind, .int .i64 x.deed, .int .i64 x.house, .slice xp x.parts.length xq] 39)) hb2')
                    have HG2 := Lib.hid (((Grow.refl wr).alloc (.cells #[.int .i64 x.kind, .int .i64 x.deed, .int .i64 x.house, .slice xp x.parts.length xq] 39)).trans hb2')
                    clear hb2' g0 g1 g2 g3
                    clear c0 c1 c2 c3 z3 d0 d1 d2 d3 d4 d5 d6 z5
                    have R3_w2 := Lib.hid (row_grow R3_wr.out HG2.out)
                    have HBXw2 := Lib.hid (HBXwr.out.grow HG2.out)
                    obtain ⟨c0, c1, c2, c3⟩ := cells4 (R3_w2).out
                    have z3 : w.heap.size < w2.heap.size := (Array.getElem?_eq_some_iff.1 R3_w2.out).1
                    obtain ⟨d0, d1, d2, d3, d4, d5, d6⟩ := cells7 HBXw2.out.row
                    have z5 : B < w2.heap.size := (Array.getElem?_eq_some_iff.1 HBXw2.out.row).1
                    obtain ⟨q0, q1, q2, q3⟩ := cells4 R10.out
                    have z10 : wr.heap.size < w2.heap.size := (Array.getElem?_eq_some_iff.1 R10.out).1
                    go_wp2
                    go_ret
                    exact ⟨rfl, HB.out.trans HG2.out⟩
                · skip
                  have hbw : (wrongM x != 0) = true := by simp [hw]
                  clear hw
                  generalize wrongM x = wm at *
                  go_wp2_with fail
                  refine (HWR.out _ ((Grow.refl wr).alloc _)).mono ?_
                  rintro e w2 ⟨rfl, hb2'⟩
                  have R10 := Lib.hid (row_grow (row_new wr (.cells #[.int .i64 x.kind, .int .i64 x.deed, .int .i64 x.house, .slice xp x.parts.length xq] 39)) hb2')
                  have HG2 := Lib.hid (((Grow.refl wr).alloc (.cells #[.int .i64 x.kind, .int .i64 x.deed, .int .i64 x.house, .slice xp x.parts.length xq] 39)).trans hb2')
                  clear hb2' g0 g1 g2 g3
                  clear c0 c1 c2 c3 z3 d0 d1 d2 d3 d4 d5 d6 z5
                  have R3_w2 := Lib.hid (row_grow R3_wr.out HG2.out)
                  have HBXw2 := Lib.hid (HBXwr.out.grow HG2.out)
                  obtain ⟨c0, c1, c2, c3⟩ := cells4 (R3_w2).out
                  have z3 : w.heap.size < w2.heap.size := (Array.getElem?_eq_some_iff.1 R3_w2.out).1
                  obtain ⟨d0, d1, d2, d3, d4, d5, d6⟩ := cells7 HBXw2.out.row
                  have z5 : B < w2.heap.size := (Array.getElem?_eq_some_iff.1 HBXw2.out.row).1
                  obtain ⟨q0, q1, q2, q3⟩ := cells4 R10.out
                  have z10 : wr.heap.size < w2.heap.size := (Array.getElem?_eq_some_iff.1 R10.out).1
                  go_wp2
                  go_ret
                  exact ⟨rfl, HB.out.trans HG2.out⟩
              · skip
                clear hel
                obtain ⟨w1d, w2e, w3k⟩ : m.deed ∈ (hearH hx ⟨4, m.deed, m.house, []⟩).done ∧ hearM hx m.house ⟨4, m.deed, m.house, []⟩ = sayE 6 m.deed m.house ∧ ∀ key, whoE (hearH hx ⟨4, m.deed, m.house, []⟩).ready key ≠ m.deed := ⟨(word_law (me := m.house) HOX.out.made HOX.out.fine HD0.out HKX.out m.house 0).1, (word_law (me := m.house) HOX.out.made HOX.out.fine HD0.out HKX.out m.house 0).2.1, fun key => (word_law (me := m.house) HOX.out.made HOX.out.fine HD0.out HKX.out m.house key).2.2⟩
                have hhc := (fun (W : World) (hh : Of Ty.hs W.cell? (.agg #[.slice xl hx.log.length xk, .int .i64 hx.sums.a, .int .i64 hx.sums.b, .int .i64 hx.sums.c, .int .i64 hx.sums.d, .slice xr hx.ready.length xt, .slice xd hx.done.length xu]) hx) => house_hear (me := m.house) (m := ⟨4, m.deed, m.house, []⟩) (vm := .agg #[.int .i64 4, .int .i64 m.deed, .int .i64 m.house, .slice none 0 0]) W hh ⟨_, rfl, _, rfl, (show I64 4 by unfold I64; decide), HMD.out, HME.out, Sl.nil _ _⟩ HOX.out.keys (by intro p hp; simp at hp) (by have := HOX.out.len; have := HSM.out; omega) (fun y hy => by have := HOX.out.small y hy; omega) (by simp) HME.out HOX.out.made)
                rw [w2e] at hhc
                have HHC := Lib.hid hhc
                clear hhc w2e
                generalize hearH hx ⟨4, m.deed, m.house, []⟩ = hn at *
                have HIN := Lib.hid w1d
                have HWK := Lib.hid w3k
                clear w1d w3k
                go_wp2_with fail
                refine (HHC.out _ (HBXwr.out.of.mono (wo_sub _ _))).mono ?_
                rintro e w3 ⟨v1, v2, rfl, hof, hbm, hb3⟩
                obtain ⟨nl, nk, nr, nt, nd, nu, rfl⟩ := hof.hs_form
                have HOF := Lib.hid hof
                have HB3 := Lib.hid hb3
                have hbm' := hbm.mono (ov_none hb3)
                unfold sayE at hbm hbm'
                obtain ⟨ab, cb, rfl, b1, b2, -, hbl⟩ := hbm'
                obtain ⟨bb, ob, vb, rfl, s0, -⟩ := Mss.at_ hbl 0 (by simp)
                simp only [List.getElem_cons_zero, Nat.zero_mul, Nat.add_zero, List.length_cons, List.length_nil, Nat.zero_add] at s0 b1
                have S0 := Lib.hid s0
                have HBM := Lib.hid (hbm.mono (win_ov _ _))
                simp only [List.length_cons, List.length_nil, Nat.zero_add]
                clear hof hbm hb3 hbl b1 b2 s0
                clear c0 c1 c2 c3 z3 d0 d1 d2 d3 d4 d5 d6 z5
                go_wp2_with (first | (refine wpList_store_row rfl (.tmp 7) (.tmp 92) rfl rfl rfl (row_grow HBXwr.out.row HB3.out) info_hs rfl rfl ?_))
                intro w4 r4 g4
                have HBXw4 : Hid (InBox w4 B hn _) := Lib.hid (InBox.put (Array.getElem?_eq_some_iff.1 HBXwr.out.row).1 (Grow.refl wr) HB3.out (HOF.out.mono (ov_mono (fun a v e => by cases e) (Grow.refl _))) r4 g4)
                have HG4 : Hid (Grow w w4) := Lib.hid ((HB.out.trans HB3.out).grown g4 (fun k hk => by obtain rfl := Option.some.inj hk; exact HBN.out))
                have R3_w4 := Lib.hid (row_by (row_grow R3_wr.out HB3.out) g4 (by have := HBW2.out; simp; omega))
                have S4 : Hid (w4.cell? ⟨bb, ob, none⟩ = some (.int .i64 6)) := Lib.hid (by
                  obtain ⟨a9, c9, e9, -, -, -, hl9⟩ := HBM.out.mono (win_set g4 (.inl (Array.getElem?_eq_some_iff.1 HBXwr.out.row).1))
                  simp only [Value.slice.injEq] at e9
                  obtain ⟨rfl, -, rfl⟩ := e9
                  obtain ⟨b9, o9, v9, e9, s9, -⟩ := Mss.at_ (fun i x h => hl9 i x h) 0 (by simp)
                  obtain ⟨rfl, rfl⟩ : bb = b9 ∧ ob = o9 := by simpa using e9
                  simpa using win_sub _ _ _ _ _ s9)
                clear r4 g4 S0
                obtain ⟨c0, c1, c2, c3⟩ := cells4 (R3_w4).out
                have z3 : w.heap.size < w4.heap.size := (Array.getElem?_eq_some_iff.1 R3_w4.out).1
                obtain ⟨d0, d1, d2, d3, d4, d5, d6⟩ := cells7 HBXw4.out.row
                have z5 : B < w4.heap.size := (Array.getElem?_eq_some_iff.1 HBXw4.out.row).1
                have HDN := Lib.hid ((Of.hs_log HBXw4.out.of).2.2)
                obtain ⟨nd', nu', hde, n1, n2, -, hdl⟩ := (Of.hs_log HBXw4.out.of).2.2
                simp only [Value.slice.injEq, true_and] at hde
                obtain ⟨rfl, rfl⟩ := hde
                unfold maxLen at n2
                go_wp2
                obtain ⟨wo9, rfl⟩ : ∃ x : World, x = wr := ⟨_, rfl⟩
                go_loopw [12, 14, 97] (fun f _ i wr => ∃ j : Nat, j ≤ hn.done.length ∧ i = .int .i64 j ∧ f = .bool (decide (m.deed ∈ hn.done.take j)) ∧ Grow w4 wr) (fun _ _ i _ => hn.done.length - (intOf i).toNat)
                case atStart => exact ⟨0, by omega, rfl, by simp, Grow.refl _⟩
                case round =>
                  obtain ⟨j, hj', rfl, rfl, hb⟩ := hrel
                  obtain ⟨wx, rfl⟩ : ∃ x : World, x = wr := ⟨_, rfl⟩
                  have R3_wx := Lib.hid (row_grow R3_w4.out hb)
                  have HBXwx := Lib.hid (HBXw4.out.grow hb)
                  clear c0 c1 c2 c3 z3 d0 d1 d2 d3 d4 d5 d6 z5
                  obtain ⟨c0, c1, c2, c3⟩ := cells4 (R3_wx).out
                  have z3 : w.heap.size < wx.heap.size := (Array.getElem?_eq_some_iff.1 R3_wx.out).1
                  obtain ⟨d0, d1, d2, d3, d4, d5, d6⟩ := cells7 HBXwx.out.row
                  have z5 : B < wx.heap.size := (Array.getElem?_eq_some_iff.1 HBXwx.out.row).1
                  by_cases hlt2 : j < hn.done.length
                  · skip
                    obtain ⟨b, o, rfl, e0, -⟩ := intAt hdl j hlt2
                    replace e0 := hb.sub _ _ (wo_sub _ _ _ _ e0)
                    have HTK : Hid (decide (m.deed ∈ hn.done.take (j + 1)) = (decide (m.deed ∈ hn.done.take j) || (hn.done[j] == m.deed))) := Lib.hid (by
                      rw [List.take_succ_eq_append_getElem hlt2, Bool.eq_iff_iff]
                      simp only [decide_eq_true_eq, Bool.or_eq_true, beq_iff_eq, List.mem_append, List.mem_singleton]
                      exact or_congr Iff.rfl ⟨Eq.symm, Eq.symm⟩)
                    clear hdl
                    generalize hn.done[j] = dj at *
                    generalize decide (m.deed ∈ hn.done.take j) = acc at *
                    cases acc
                    · go_wp2_with fail
                      go_roundw
                      case rel => exact ⟨j + 1, by omega, by go_num, by rw [HTK.out]; rfl, hb⟩
                      case measure => simp [intOf]; omega
                    · go_wp2_with fail
                      go_roundw
                      case rel => exact ⟨j + 1, by omega, by go_num, by rw [HTK.out]; rfl, hb⟩
                      case measure => simp [intOf]; omega
                  · skip
                    have hjn : j = hn.done.length := by omega
                    have hdd : decide (m.deed ∈ hn.done.take j) = true := by rw [List.take_of_length_le (by omega)]; exact decide_eq_true HIN.out
                    rw [hdd]
                    clear hdd hdl
                    have s4 := hb.sub _ _ S4.out
                    have zs := World.block_lt_of_cell? wx _ s4
                    simp only at zs
                    have p1 := hb.sub _ _ (HG4.out.sub _ _ HP0.out)
                    have zp := World.block_lt_of_cell? wx _ p1
                    simp only at zp
                    have HWH : Hid (∀ W, Grow wx W → Calls Try.prog 30 #[.agg #[.slice nl hn.log.length nk, .int .i64 hn.sums.a, .int .i64 hn.sums.b, .int .i64 hn.sums.c, .int .i64 hn.sums.d, .slice nr hn.ready.length nt, .slice nd hn.done.length nu], .int .i64 p0.k] W fun e w' => e = .returned (.int .i64 (whoE hn.ready p0.k)) ∧ Grow W w') := fun W hW => ref_who W (HBXwx.out.of.mono ((wo_sub _ _).trans hW.sub))
                    have hne : (whoE hn.ready p0.k != m.deed) = true := by simpa using HWK.out p0.k
                    generalize whoE hn.ready p0.k = wh at *
                    have HS2 : Hid (∀ W, Grow wx W → W.cell? ⟨B, 0, none⟩ = some (.slice nl hn.log.length nk) ∧ W.cell? ⟨B, 1, none⟩ = some (.int .i64 hn.sums.a) ∧ W.cell? ⟨B, 2, none⟩ = some (.int .i64 hn.sums.b) ∧ W.cell? ⟨B, 3, none⟩ = some (.int .i64 hn.sums.c) ∧ W.cell? ⟨B, 4, none⟩ = some (.int .i64 hn.sums.d) ∧ W.cell? ⟨B, 5, none⟩ = some (.slice nr hn.ready.length nt) ∧ W.cell? ⟨B, 6, none⟩ = some (.slice nd hn.done.length nu) ∧ W.cell? ⟨w.heap.size, 1, none⟩ = some (.int .i64 m.deed) ∧ W.cell? ⟨w.heap.size, 3, none⟩ = some (.slice (some ⟨bp, op, none⟩) m.parts.length cp) ∧ W.cell? ⟨bb, ob, none⟩ = some (.int .i64 6) ∧ W.cell? ⟨bp, op + 1, none⟩ = some (.int .i64 p0.k)) := fun W hW => ⟨hW.sub _ _ d0, hW.sub _ _ d1, hW.sub _ _ d2, hW.sub _ _ d3, hW.sub _ _ d4, hW.sub _ _ d5, hW.sub _ _ d6, hW.sub _ _ c1, hW.sub _ _ c3, hW.sub _ _ s4, hW.sub _ _ p1⟩
                    go_wp2_with fail
                    go_region_held3 (fun w' => w'.cell? ⟨B, 0, none⟩ = some (.slice nl hn.log.length nk) ∧ w'.cell? ⟨B, 1, none⟩ = some (.int .i64 hn.sums.a) ∧ w'.cell? ⟨B, 2, none⟩ = some (.int .i64 hn.sums.b) ∧ w'.cell? ⟨B, 3, none⟩ = some (.int .i64 hn.sums.c) ∧ w'.cell? ⟨B, 4, none⟩ = some (.int .i64 hn.sums.d) ∧ w'.cell? ⟨B, 5, none⟩ = some (.slice nr hn.ready.length nt) ∧ w'.cell? ⟨B, 6, none⟩ = some (.slice nd hn.done.length nu) ∧ w'.cell? ⟨w.heap.size, 1, none⟩ = some (.int .i64 m.deed) ∧ w'.cell? ⟨w.heap.size, 3, none⟩ = some (.slice (some ⟨bp, op, none⟩) m.parts.length cp) ∧ w'.cell? ⟨bb, ob, none⟩ = some (.int .i64 6) ∧ w'.cell? ⟨bp, op + 1, none⟩ = some (.int .i64 p0.k)) (first | assumption | exact HS2.out _ (by repeat (first | with_reducible assumption | with_reducible exact Grow.refl _ | with_reducible apply Grow.drewN | with_reducible apply Grow.drew | with_reducible apply Grow.alloc | (refine Grow.trans ?_ (by with_reducible assumption))))) (first | (go_at_call 30; refine (HWH.out _ (by repeat (first | with_reducible assumption | with_reducible exact Grow.refl _ | with_reducible apply Grow.drewN | with_reducible apply Grow.drew | with_reducible apply Grow.alloc | (refine Grow.trans ?_ (by with_reducible assumption))))).mono ?_; rintro e wa ⟨rfl, hba⟩))
                    go_wp2
                    go_ret
                    exact ⟨rfl, HG4.out.trans (hb.trans (by repeat (first | with_reducible assumption | with_reducible exact Grow.refl _ | with_reducible apply Grow.drewN | with_reducible apply Grow.drew | with_reducible apply Grow.alloc | (refine Grow.trans ?_ (by with_reducible assumption)))))⟩
          · skip
            have hb9 : (y.kind != 2) = true := by simp [hy2]
            clear hyk hy2
            simp only [List.length_cons, List.length_nil, Nat.zero_add]
            go_wp2
            go_ret
            exact ⟨rfl, HG7.out⟩
    · skip
      have hb1 : (m.kind != 1) = true := by simp [hk1]
      go_enter Try.func11, Try.ntmps11
      go_wp2_with fail
      refine HAL.out.mono ?_
      rintro e w1 ⟨rfl, hb1⟩
      have R3_1 := Lib.hid (row_grow (row_new w (.cells #[.int .i64 m.kind, .int .i64 m.deed, .int .i64 m.house, .slice ap m.parts.length cp] 39)) hb1)
      have HB1 := Lib.hid (((Grow.refl w).alloc (.cells #[.int .i64 m.kind, .int .i64 m.deed, .int .i64 m.house, .slice ap m.parts.length cp] 39)).trans hb1)
      clear hb1
      obtain ⟨c0, c1, c2, c3⟩ := cells4 R3_1.out
      have z3 : w.heap.size < w1.heap.size := (Array.getElem?_eq_some_iff.1 R3_1.out).1
      go_wp2_with fail
      refine (HRT.out _ HB1.out).mono ?_
      rw [HOK.out]
      rintro e w2 ⟨rfl, hb2⟩
      have R3_2 := Lib.hid (row_grow R3_1.out hb2)
      have HBW := Lib.hid (HB1.out.trans hb2)
      clear hb2 c0 c1 c2 c3 z3
      obtain ⟨c0, c1, c2, c3⟩ := cells4 R3_2.out
      have z3 : w.heap.size < w2.heap.size := (Array.getElem?_eq_some_iff.1 R3_2.out).1
      go_wp2
      go_ret
      exact ⟨rfl, HBW.out⟩
end Go.Proofs.Ytgbhpghgohggcaa

/- From the form's reading of an argument to plain readings of cells. -/
namespace Go.Proofs.Ytgbhpghgohggcaa
open Go.RowKit Go.ChangeShapes Go.WideShapes Go.ChangeAt

def Reads {α : Type} (P : Program) (t : TypeId) (T : Ty α) : Prop := ∀ (H : Type) (enc : TypeId × Value → H) (W : World) (fuel : Nat) (cs : List Value) (x : DataW H × List MemPlace),
  DataW.trod enc P W 0 (fun _ => true) true fuel t cs = some x → ∃ y, T.R W.cell? cs y
theorem reads_int {P : Program} {t : TypeId} (ht : P.underlying t = some (.int .i64)) : Reads P t Ty.int := by
  intro H enc W fuel cs x h
  obtain ⟨n, rfl, _, hw⟩ := DataW.trod_int ht h
  exact ⟨n, rfl, hw⟩
theorem reads_sl {α : Type} {P : Program} {t e : TypeId} {T : Ty α} (hR : Reads P e T) (ht : P.underlying t = some (.slice e)) (hc : P.cellsOf e = T.size) (h0 : 0 < T.size) : Reads P t T.sl := by
  intro H enc W fuel cs x h
  rcases Deep.open_slice ht h with ⟨rfl, _⟩ | ⟨a, len, cap, m, n, D, Pl, rfl, _, hl, hm, hmm, hxe, hx⟩
  · exact ⟨[], _, rfl, none, 0, rfl, Nat.le_refl _, Nat.zero_le _, fun _ => rfl, fun i x e => by simp at e⟩
  · simp only [if_true] at hmm
    subst m
    have h2 : ∀ i, i < len → ∃ (p : List Value × α), T.R W.cell? p.1 p.2 ∧ W.cells? 0 (a.add (i * T.size)) T.size = some p.1 := by
      intro i hi
      obtain ⟨cs', h1, h2⟩ := hx i (by omega)
      obtain ⟨y, hy⟩ := hR H enc W n cs' _ h2
      rw [hc] at h1
      exact ⟨(cs', y), hy, h1⟩
    have h3 : ∃ l : List α, l.length = len ∧ ∀ i y, l[i]? = some y → ∃ cs', T.R W.cell? cs' y ∧ W.cells? 0 (a.add (i * T.size)) T.size = some cs' := by
      clear hx hl h hxe
      induction len with
      | zero => exact ⟨[], rfl, by simp⟩
      | succ len ih =>
        obtain ⟨l, hl, hi⟩ := ih (by intro i hi; exact h2 i (by omega))
        obtain ⟨⟨cs', y⟩, hy, h1⟩ := h2 len (by omega)
        refine ⟨l ++ [y], by simp [hl], fun i z hz => ?_⟩
        rcases Nat.lt_or_ge i l.length with hlt | hge
        · rw [List.getElem?_append_left hlt] at hz; exact hi i z hz
        · have hb := (List.getElem?_eq_some_iff.1 hz).1
          simp at hb
          obtain rfl : i = len := by omega
          rw [List.getElem?_append_right hge, hl] at hz
          simp at hz
          subst hz
          exact ⟨cs', hy, h1⟩
    obtain ⟨l, hlen, hl2⟩ := h3
    refine ⟨l, _, rfl, some a, cap, by rw [hlen], by omega, hm, by simp, fun i y hy => ?_⟩
    obtain ⟨cs', hR', hcs⟩ := hl2 i y hy
    obtain ⟨_, hlen', hat⟩ := World.cells?_some hcs
    have hpos : 0 < l.length := by have := (List.getElem?_eq_some_iff.1 hy).1; omega
    obtain ⟨cs0, _, hcs0⟩ := hl2 0 l[0] (List.getElem?_eq_getElem hpos)
    obtain ⟨_, hlen0, hat0⟩ := World.cells?_some hcs0
    have hfirst := hat0 0 h0
    rw [List.getElem?_eq_getElem (by omega)] at hfirst
    have hsp := World.cell?_spot hfirst
    obtain ⟨b, o, s⟩ := a
    have hs : s = none := by simpa [Addr.add] using hsp
    subst hs
    refine ⟨b, o, cs', rfl, hR', fun j u hu => ?_⟩
    have hj : j < T.size := by rw [← hlen']; exact (List.getElem?_eq_some_iff.1 hu).1
    have := hat j hj
    rw [Addr.add_lit, Addr.add_lit, hu] at this
    exact this
/-- a struct's fields: type, place, cells -/
def structOf (P : Program) (t : TypeId) : Option (List (TypeId × Nat × Nat)) :=
  match P.underlying t with
  | some (.struct fs) => some (fs.toList.map fun f => (f.type, f.offset, P.cellsOf f.type))
  | _ => none
theorem struct_fields {P : Program} {t : TypeId} {fs' : List (TypeId × Nat × Nat)} (hs : structOf P t = some fs') {H : Type} {enc : TypeId × Value → H} {W : World} {fuel : Nat} {cs : List Value} {x : DataW H × List MemPlace}
    (h : DataW.trod enc P W 0 (fun _ => true) true fuel t cs = some x) : cs.length = P.cellsOf t ∧ ∀ (i : Nat) (f : TypeId × Nat × Nat), fs'[i]? = some f → ∃ n y, DataW.trod enc P W 0 (fun _ => true) true n f.1 ((cs.drop f.2.1).take f.2.2) = some y := by
  unfold structOf at hs
  split at hs
  · rename_i fs hu
    obtain rfl := Option.some.inj hs
    obtain ⟨xs, n, _, _, hl, hlen, hf⟩ := DataW.trod_struct hu h
    refine ⟨hl, fun i f hi => ?_⟩
    rw [List.getElem?_map] at hi
    cases hfi : fs.toList[i]? with
    | none => rw [hfi] at hi; cases hi
    | some fd =>
      rw [hfi] at hi
      obtain rfl := Option.some.inj hi
      have hfi' : fs[i]? = some fd := by simpa using hfi
      have hlt : i < xs.length := by rw [hlen]; exact (Array.getElem?_eq_some_iff.1 hfi').1
      have := hf i fd hfi'
      rw [List.getElem?_eq_getElem hlt] at this
      exact ⟨n, _, this⟩
  · cases hs
theorem reads_pt : Reads Try.prog 32 Ty.pt := by
  intro H enc W fuel cs x h
  obtain ⟨hl, hf⟩ := struct_fields (fs' := [(3, 0, 1), (3, 1, 1), (3, 2, 1)]) (by kernel_rfl) h
  rw [show (Try.prog).cellsOf 32 = 3 by kernel_rfl] at hl
  match cs, hl with
  | [a, b, c], _ =>
    obtain ⟨_, _, h0⟩ := hf 0 _ rfl
    obtain ⟨_, _, h1⟩ := hf 1 _ rfl
    obtain ⟨_, _, h2⟩ := hf 2 _ rfl
    obtain ⟨x0, e0, w0⟩ := reads_int (by kernel_rfl) _ _ _ _ _ _ h0
    obtain ⟨x1, e1, w1⟩ := reads_int (by kernel_rfl) _ _ _ _ _ _ h1
    obtain ⟨x2, e2, w2⟩ := reads_int (by kernel_rfl) _ _ _ _ _ _ h2
    refine ⟨⟨x0, x1, x2⟩, ?_, w0, w1, w2⟩
    simp at e0 e1 e2
    subst e0 e1 e2
    rfl
theorem reads_pts : Reads Try.prog 23 Ty.pts := reads_sl reads_pt (by kernel_rfl) (by kernel_rfl) (by decide)
theorem reads_ints : Reads Try.prog 27 (Ty.sl Ty.int) := reads_sl (reads_int (t := 3) (by kernel_rfl)) (by kernel_rfl) (by kernel_rfl) (by decide)
theorem reads_rc : Reads Try.prog 48 Ty.rc := by
  intro H enc W fuel cs x h
  obtain ⟨hl, hf⟩ := struct_fields (fs' := [(3, 0, 1), (3, 1, 1), (23, 2, 1)]) (by kernel_rfl) h
  rw [show (Try.prog).cellsOf 48 = 3 by kernel_rfl] at hl
  match cs, hl with
  | [a, b, c], _ =>
    obtain ⟨_, _, h0⟩ := hf 0 _ rfl
    obtain ⟨_, _, h1⟩ := hf 1 _ rfl
    obtain ⟨_, _, h2⟩ := hf 2 _ rfl
    obtain ⟨x0, e0, w0⟩ := reads_int (by kernel_rfl) _ _ _ _ _ _ h0
    obtain ⟨x1, e1, w1⟩ := reads_int (by kernel_rfl) _ _ _ _ _ _ h1
    obtain ⟨x2, v2, e2, w2⟩ := reads_pts _ _ _ _ _ _ h2
    refine ⟨⟨x0, x1, x2⟩, v2, ?_, w0, w1, w2⟩
    simp at e0 e1 e2
    subst e0 e1 e2
    rfl
theorem reads_rcs : Reads Try.prog 22 (Ty.sl Ty.rc) := reads_sl reads_rc (by kernel_rfl) (by kernel_rfl) (by decide)
theorem reads_rd : Reads Try.prog 45 Ty.rd := by
  intro H enc W fuel cs x h
  obtain ⟨hl, hf⟩ := struct_fields (fs' := [(3, 0, 1), (23, 1, 1)]) (by kernel_rfl) h
  rw [show (Try.prog).cellsOf 45 = 2 by kernel_rfl] at hl
  match cs, hl with
  | [a, b], _ =>
    obtain ⟨_, _, h0⟩ := hf 0 _ rfl
    obtain ⟨_, _, h1⟩ := hf 1 _ rfl
    obtain ⟨x0, e0, w0⟩ := reads_int (by kernel_rfl) _ _ _ _ _ _ h0
    obtain ⟨x2, v2, e2, w2⟩ := reads_pts _ _ _ _ _ _ h1
    refine ⟨⟨x0, x2⟩, v2, ?_, w0, w2⟩
    simp at e0 e2
    subst e0 e2
    rfl
theorem reads_ms : Reads Try.prog 39 Ty.ms := by
  intro H enc W fuel cs x h
  obtain ⟨hl, hf⟩ := struct_fields (fs' := [(3, 0, 1), (3, 1, 1), (3, 2, 1), (23, 3, 1)]) (by kernel_rfl) h
  rw [show (Try.prog).cellsOf 39 = 4 by kernel_rfl] at hl
  match cs, hl with
  | [a, b, c, d], _ =>
    obtain ⟨_, _, h0⟩ := hf 0 _ rfl
    obtain ⟨_, _, h1⟩ := hf 1 _ rfl
    obtain ⟨_, _, h2⟩ := hf 2 _ rfl
    obtain ⟨_, _, h3⟩ := hf 3 _ rfl
    obtain ⟨x0, e0, w0⟩ := reads_int (by kernel_rfl) _ _ _ _ _ _ h0
    obtain ⟨x1, e1, w1⟩ := reads_int (by kernel_rfl) _ _ _ _ _ _ h1
    obtain ⟨x2, e2, w2⟩ := reads_int (by kernel_rfl) _ _ _ _ _ _ h2
    obtain ⟨x3, v3, e3, w3⟩ := reads_pts _ _ _ _ _ _ h3
    refine ⟨⟨x0, x1, x2, x3⟩, v3, ?_, w0, w1, w2, w3⟩
    simp at e0 e1 e2 e3
    subst e0 e1 e2 e3
    rfl
theorem reads_mss : Reads Try.prog 36 (Ty.sl Ty.ms) := reads_sl reads_ms (by kernel_rfl) (by kernel_rfl) (by decide)
/-- an argument that is a slice -/
theorem arg_sl {α : Type} {P : Program} {t e : TypeId} {T : Ty α} (hR : Reads P t T.sl) (ht : P.underlying t = some (.slice e)) {H : Type} {enc : TypeId × Value → H} {W : World} {r : Reach} {b : Nat} {v : Value} {d : DataW H} {p : List MemPlace}
    (hval : Value.okWide P W r b t v) (h : DataW.Trod enc P W 0 (fun _ => true) true t v d p) : ∃ l, Sl T W.cell? v l := by
  obtain ⟨a, len, cap, rfl⟩ := okWide_slice ht hval
  obtain ⟨fuel, hf⟩ := h
  obtain ⟨l, v, e, hv⟩ := hR _ _ _ _ _ _ hf
  simp [Value.cells] at e
  subst e
  exact ⟨l, hv⟩
theorem own : ownKnob (Try.prog).godebug = none := by kernel_rfl
theorem laidOut : laidOutB Try.prog = true := by kernel_rfl
end Go.Proofs.Ytgbhpghgohggcaa

/- More readings of the form's arguments; how large they are. -/
namespace Go.Proofs.Ytgbhpghgohggcaa
open Go.RowKit Go.ChangeShapes Go.WideShapes Go.ChangeAt
theorem sl_len {α : Type} {T : Ty α} {c : CM} {a : Option Addr} {n cap : Nat} {l : List α} (h : Sl T c (.slice a n cap) l) : l.length = n := by
  obtain ⟨a', cap', he, _⟩ := h
  simp only [Value.slice.injEq] at he
  exact he.2.1.symm
/-- an argument that is a slice: it takes no more bytes than a process has -/
theorem arg_size {α : Type} {P : Program} {t e : TypeId} {T : Ty α} {k : Nat} (ht : P.underlying t = some (.slice e)) (hb : P.bytesOf e = k) {H : Type} {enc : TypeId × Value → H} {W : World} {r : Reach} {b : Nat} {v : Value} {d : DataW H} {p : List MemPlace} {ts : List TypeId} {ds : List (DataW H)} {j : Nat}
    (hsz : (DataW.weightsEach P ts ds).all (· ≤ reachBytes) = true) (hj : ts[j]? = some t) (hd : ds[j]? = some d)
    (hval : Value.okWide P W r b t v) (h : DataW.Trod enc P W 0 (fun _ => true) true t v d p) {l : List α} (hl : Sl T W.cell? v l) : l.length * k ≤ 140737488351232 := by
  obtain ⟨a, len, cap, rfl⟩ := okWide_slice ht hval
  obtain ⟨fuel, hf⟩ := h
  have hll := sl_len hl
  rcases Deep.open_slice ht hf with ⟨he, _⟩ | ⟨a', len', cap', m, n, D, Pl, he, _, hlc, _, hmm, hxe, _⟩
  · simp [Value.cells] at he
    rw [hll, he.2.1]; simp
  · simp [Value.cells] at he
    obtain ⟨_, rfl, rfl⟩ := he
    obtain rfl : d = .slice ((List.range len).map D) ((List.range (m - len)).map fun j => D (len + j)) := by simpa using congrArg Prod.fst hxe
    have := sized_slice hsz hj hd ht
    rw [hb, List.length_map, List.length_range] at this
    rw [hll]
    have h2 : len * k ≤ (len + ((List.range (m - len)).map fun j => D (len + j)).length) * k := Nat.mul_le_mul_right _ (Nat.le_add_right _ _)
    have h3 : reachBytes = 140737488351232 := rfl
    omega
/-- an argument that is a struct by value -/
theorem arg_of {α : Type} {P : Program} {t : TypeId} {fs : Array Field} {T : Ty α} (hR : Reads P t T) (ht : P.underlying t = some (.struct fs)) {H : Type} {enc : TypeId × Value → H} {W : World} {r : Reach} {b : Nat} {v : Value} {d : DataW H} {p : List MemPlace}
    (hval : Value.okWide P W r b t v) (h : DataW.Trod enc P W 0 (fun _ => true) true t v d p) : ∃ x, Of T W.cell? v x := by
  obtain ⟨cs, rfl, _⟩ := okWide_struct ht hval
  obtain ⟨fuel, hf⟩ := h
  obtain ⟨x, hx⟩ := hR _ _ _ _ _ _ hf
  exact ⟨x, cs.toList, rfl, hx⟩
theorem reads_st : Reads Try.prog 164 Ty.st := by
  intro H enc W fuel cs x h
  obtain ⟨hl, hf⟩ := struct_fields (fs' := [(3, 0, 1), (3, 1, 1), (23, 2, 1)]) (by kernel_rfl) h
  rw [show (Try.prog).cellsOf 164 = 3 by kernel_rfl] at hl
  match cs, hl with
  | [a, b, c], _ =>
    obtain ⟨_, _, h0⟩ := hf 0 _ rfl
    obtain ⟨_, _, h1⟩ := hf 1 _ rfl
    obtain ⟨_, _, h2⟩ := hf 2 _ rfl
    obtain ⟨x0, e0, w0⟩ := reads_int (by kernel_rfl) _ _ _ _ _ _ h0
    obtain ⟨x1, e1, w1⟩ := reads_int (by kernel_rfl) _ _ _ _ _ _ h1
    obtain ⟨x2, v2, e2, w2⟩ := reads_pts _ _ _ _ _ _ h2
    refine ⟨⟨x0, x1, x2⟩, v2, ?_, w0, w1, w2⟩
    simp at e0 e1 e2
    subst e0 e1 e2
    rfl
theorem reads_sts : Reads Try.prog 90 (Ty.sl Ty.st) := reads_sl reads_st (by kernel_rfl) (by kernel_rfl) (by decide)
theorem reads_rds : Reads Try.prog 26 (Ty.sl Ty.rd) := reads_sl reads_rd (by kernel_rfl) (by kernel_rfl) (by decide)
theorem reads_byte : Reads Try.prog 5 Ty.byte := by
  intro H enc W fuel cs x h
  obtain ⟨n, rfl, _, hw⟩ := DataW.trod_int (k := .u8) (by kernel_rfl) h
  have hw2 : 0 ≤ n ∧ n < 256 := by
    have h2 : (Lit.int .u8 n).wf = true := hw
    have h3 : IntKind.u8.min ≤ n ∧ n ≤ IntKind.u8.max := by simpa [Lit.wf] using h2
    have h4 : IntKind.u8.min = 0 := by decide
    have h5 : IntKind.u8.max = 255 := by decide
    omega
  refine ⟨UInt8.ofNat n.toNat, ?_⟩
  show [Value.int .u8 n] = byteCell _
  unfold byteCell
  have : ((UInt8.ofNat n.toNat).toNat : Int) = n := by
    rw [UInt8.toNat_ofNat']
    omega
  rw [this]
theorem reads_bts : Reads Try.prog 69 Ty.bts := reads_sl reads_byte (by kernel_rfl) (by kernel_rfl) (by decide)
theorem reads_nets : Reads Try.prog 79 (Ty.sl Ty.bts) := reads_sl reads_bts (by kernel_rfl) (by kernel_rfl) (by decide)
end Go.Proofs.Ytgbhpghgohggcaa
