/- The law LocksGo, walked. -/
import Derived.Test.YtgbhpghgohggcaaA6
import Derived.Test.YtgbhpghgohggcaaAux1
import Derived.Test.YtgbhpghgohggcaaW5
namespace Go.Proofs.Ytgbhpghgohggcaa
open Go.RowKit
theorem go_ready {l : List Rc} {kind deed : Int} (hk : kind = 2 ∨ kind = 3) : (houseR (l ++ [⟨kind, deed, []⟩])).ready = (houseR l).ready.eraseP (isD deed) := by
  rw [house_snoc]
  show (refStep (houseR l) ⟨kind, deed, []⟩).ready = _
  rw [step_ready]
  by_cases h : ((houseR l).ready.find? (isD deed)).isSome = true
  · rw [if_pos h, if_pos hk]
  · rw [if_neg h, if_neg (by show ¬ kind = 1; omega), List.eraseP_of_forall_not]
    intro x hx hx2
    exact h (by rw [List.find?_isSome]; exact ⟨x, hx, hx2⟩)
theorem go_law {l : List Rc} {kind deed : Int} (key : Int) (hl : ∀ r ∈ l, 0 ≤ r.deed) (hk : kind = 2 ∨ kind = 3) (hd : 0 ≤ deed) :
    whoE (houseR (l ++ [⟨kind, deed, []⟩])).ready key ≠ deed ∧ (whoE (houseR l).ready key = deed ∨ whoE (houseR l).ready key = whoE (houseR (l ++ [⟨kind, deed, []⟩])).ready key) := by
  rw [go_ready hk]
  exact who_drop hd (house_fine hl).nodup key
theorem right_deeds {l : List Rc} (h : rightLog l = true) : ∀ r ∈ l, 0 ≤ r.deed := by
  unfold rightLog at h
  intro r hr
  exact (of_decide_eq_true ((of_decide_eq_true h).1 r hr)).1
set_option maxRecDepth 100000 in
set_option maxHeartbeats 2000000 in
theorem locksGo_walk {v : Value} {l : List Rc} {deed kind key : Int} (w : World) (hv : Rcs w.cell? v l) (hd : I64 deed) (hki : I64 kind) :
    Calls Try.prog 5 #[v, .int .i64 deed, .int .i64 kind, .int .i64 key] w fun e w' => e = .returned (.bool true) ∧ Grow w w' := by
  have HRL := Lib.hid (fun (W : World) (hW : Grow w W) => ref_rightLog W (hv.mono hW.sub))
  have HV := Lib.hid hv
  have HI := Lib.hid (And.intro hd hki)
  have HA := Lib.hid (alive6 w)
  obtain ⟨al, cl, rfl, -⟩ := hv
  clear hd hki
  cases hok : rightLog l with
  | false =>
    go_enter Try.func5, Try.ntmps5
    go_wp2_with fail
    refine HA.out.mono ?_
    rintro e w1 ⟨rfl, hb1⟩
    have HB1 := Lib.hid hb1
    clear hb1
    go_wp2_with fail
    refine (HRL.out _ HB1.out).mono ?_
    rw [hok]
    rintro e w2 ⟨rfl, hb2⟩
    have HB2 := Lib.hid (HB1.out.trans hb2)
    clear hb2
    go_wp2
    go_ret
    exact ⟨rfl, HB2.out⟩
  | true =>
    have HOK := Lib.hid hok
    clear hok
    by_cases hk : kind = 2 ∨ kind = 3
    · have hlen := (keys_of_right HOK.out).2
      have HKS := Lib.hid (keys_of_right HOK.out).1
      have hne : ∀ x ∈ houseR l |>.ready, True := fun _ _ => trivial
      have HLAW : Hid (0 ≤ deed → whoE (houseR (l ++ [⟨kind, deed, []⟩])).ready key ≠ deed ∧ (whoE (houseR l).ready key = deed ∨ whoE (houseR l).ready key = whoE (houseR (l ++ [⟨kind, deed, []⟩])).ready key)) := go_law key (right_deeds HOK.out) hk
      have HHS := Lib.hid (fun (W : World) (hW : Grow w W) => ref_house W (HV.out.mono hW.sub) HKS.out (by omega))
      have HSRC := Lib.hid (fun (W : World) (hW : Grow w W) => (Src.of_sl (T := Ty.rc) (by decide) HV.out).grow hW)
      clear hne
      rcases hk with rfl | rfl
      · go_enter Try.func5, Try.ntmps5
        go_wp2_with fail
        refine HA.out.mono ?_
        rintro e w1 ⟨rfl, hb1⟩
        have HB1 := Lib.hid hb1
        clear hb1
        go_wp2_with fail
        refine (HRL.out _ HB1.out).mono ?_
        rw [HOK.out]
        rintro e w2 ⟨rfl, hb2⟩
        have HB2 := Lib.hid (HB1.out.trans hb2)
        clear hb2
        go_wp2_with fail
        refine (HHS.out _ HB2.out).mono ?_
        rintro e w3 ⟨vh, rfl, hO, hb3⟩
        have HB3 := Lib.hid (HB2.out.trans hb3)
        obtain ⟨al1, cl1, ar1, cr1, ad1, cd1, rfl⟩ := hO.hs_form
        have HO := Lib.hid hO
        clear hO hb3
        have HW1 := Lib.hid (fun (W : World) (hW : Grow w3 W) => locks_who (key := key) W (HO.out.mono hW.sub))
        generalize houseR l = h at *
        go_wp2_with (first | (at_builtin; refine wpList_appc ei_rc rfl one_Trc (by decide) rfl (.tmp 28) (.tmp 29) rfl rfl (OwnC.made0 Ty.rc w.cell? _ (w3.heap.size + 1) _ ?c1 ?c1') rfl (HSRC.out _ ?c2) ?c3 ?c4 ?_))
        case c1 => simp
        case c1' => simp
        case c2 => exact (HB3.out.alloc _).alloc _
        case c3 => simp; omega
        case c4 => simp
        intro a1 c1 w4 hown1 hg1 hb1
        try simp only [List.length_nil, Nat.zero_add, List.nil_append] at hown1 hb1 ⊢
        have g4 := grow_by (w0 := (w3.alloc (.cells #[.slice al1 h.log.length cl1, .int .i64 h.sums.a, .int .i64 h.sums.b, .int .i64 h.sums.c, .int .i64 h.sums.d, .slice ar1 h.ready.length cr1, .slice ad1 h.done.length cd1] 29))) ((Grow.refl _).alloc _) hg1 (own_at (by simp))
        have b4 := own_new (B := w3.heap.size + 1) (by simp) hb1 (own_at (Nat.le_refl _))
        have GW4 : Hid (Grow w w4) := Lib.hid ((HB3.out.alloc _).trans g4)
        have HO4 := Lib.hid hown1
        have HG4 := Lib.hid g4
        have HB4 := Lib.hid b4
        obtain ⟨cw4, fw4⟩ := bcell g4
        have z4 : w3.heap.size < w4.heap.size := by have := g4.size; simp at this; omega
        clear hown1 hg1 hb1 g4 b4
        go_wp2_with (first | (at_builtin; refine wpList_appc (c := w.cell?) (base := w3.heap.size + 1) (m := [⟨2, deed, []⟩]) ei_rc rfl one_Trc (by decide) rfl (.tmp 30) (.tmp 34) rfl rfl (HO4.out.grow ((Grow.refl _).alloc _)) rfl (Src.of_new (cs := #[.int .i64 2, .int .i64 deed, .slice none 0 0]) ?d0 _ _ ?d1) ?d2 ?d3 ?_))
        case d0 => exact ⟨_, rfl, HI.out.2, HI.out.1, Sl.nil _ _⟩
        case d1 => rfl
        case d2 => simp; omega
        case d3 => simp; omega
        intro a2 c2 w5 hown2 hg2 hb2
        have g5 := grow_by (w0 := (w3.alloc (.cells #[.slice al1 h.log.length cl1, .int .i64 h.sums.a, .int .i64 h.sums.b, .int .i64 h.sums.c, .int .i64 h.sums.d, .slice ar1 h.ready.length cr1, .slice ad1 h.done.length cd1] 29))) (HG4.out.alloc _) hg2 (fun k hk => by have := HB4.out k hk; simpa using this)
        have GW5 : Hid (Grow w w5) := Lib.hid ((HB3.out.alloc _).trans g5)
        have HG5 := Lib.hid g5
        have hv5 := hown2.sl (by decide) GW5.out.sub
        have HV5 := Lib.hid hv5
        obtain ⟨cw5, fw5⟩ := bcell g5
        have z5 : w3.heap.size < w5.heap.size := by have := g5.size; simp at this; omega
        clear hown2 hg2 hb2 g5 hv5 cw4 fw4
        go_wp2_with fail
        refine (ref_house w5 HV5.out (by intro r hr; rcases List.mem_append.1 hr with hr | hr; exact HKS.out r hr; simp at hr; subst hr; intro p hp; simp at hp) (by simp; omega)).mono ?_
        rintro e w6 ⟨vx, rfl, hX, hb6⟩
        obtain ⟨al2, cl2, ar2, cr2, ad2, cd2, rfl⟩ := hX.hs_form
        have HX := Lib.hid hX
        have G6 : Hid (Grow (w3.alloc (.cells #[.slice al1 h.log.length cl1, .int .i64 h.sums.a, .int .i64 h.sums.b, .int .i64 h.sums.c, .int .i64 h.sums.d, .slice ar1 h.ready.length cr1, .slice ad1 h.done.length cd1] 29)) w6) := Lib.hid (HG5.out.trans hb6)
        have GW6 : Hid (Grow w w6) := Lib.hid (GW5.out.trans hb6)
        obtain ⟨cw6, fw6⟩ := bcell G6.out
        have z6 : w3.heap.size < w6.heap.size := by have := G6.out.size; simp at this; omega
        have HW2 := Lib.hid (fun (W : World) (hW : Grow w6 W) => locks_who (key := key) W (HX.out.mono hW.sub))
        clear hX hb6 cw5 fw5
        generalize houseR (l ++ [⟨2, deed, []⟩]) = x at *
        go_wp2_with fail
        have HS : Hid (∀ W, Grow (w6.alloc (.cells #[.slice al2 x.log.length cl2, .int .i64 x.sums.a, .int .i64 x.sums.b, .int .i64 x.sums.c, .int .i64 x.sums.d, .slice ar2 x.ready.length cr2, .slice ad2 x.done.length cd2] 29)) W → W.cell? ⟨w3.heap.size, 0, none⟩ = some (.slice al1 h.log.length cl1) ∧ W.cell? ⟨w3.heap.size, 1, none⟩ = some (.int .i64 h.sums.a) ∧ W.cell? ⟨w3.heap.size, 2, none⟩ = some (.int .i64 h.sums.b) ∧ W.cell? ⟨w3.heap.size, 3, none⟩ = some (.int .i64 h.sums.c) ∧ W.cell? ⟨w3.heap.size, 4, none⟩ = some (.int .i64 h.sums.d) ∧ W.cell? ⟨w3.heap.size, 5, none⟩ = some (.slice ar1 h.ready.length cr1) ∧ W.cell? ⟨w3.heap.size, 6, none⟩ = some (.slice ad1 h.done.length cd1) ∧ W.cell? ⟨w6.heap.size, 0, none⟩ = some (.slice al2 x.log.length cl2) ∧ W.cell? ⟨w6.heap.size, 1, none⟩ = some (.int .i64 x.sums.a) ∧ W.cell? ⟨w6.heap.size, 2, none⟩ = some (.int .i64 x.sums.b) ∧ W.cell? ⟨w6.heap.size, 3, none⟩ = some (.int .i64 x.sums.c) ∧ W.cell? ⟨w6.heap.size, 4, none⟩ = some (.int .i64 x.sums.d) ∧ W.cell? ⟨w6.heap.size, 5, none⟩ = some (.slice ar2 x.ready.length cr2) ∧ W.cell? ⟨w6.heap.size, 6, none⟩ = some (.slice ad2 x.done.length cd2)) := fun W hW => by
          have k := fun i u (e : (w3.alloc (.cells #[.slice al1 h.log.length cl1, .int .i64 h.sums.a, .int .i64 h.sums.b, .int .i64 h.sums.c, .int .i64 h.sums.d, .slice ar1 h.ready.length cr1, .slice ad1 h.done.length cd1] 29)).cell? ⟨w3.heap.size, i, none⟩ = some u) => (((Grow.refl w6).alloc _).trans hW).sub _ _ (G6.out.sub _ _ e)
          have m := fun i u (e : (w6.alloc (.cells #[.slice al2 x.log.length cl2, .int .i64 x.sums.a, .int .i64 x.sums.b, .int .i64 x.sums.c, .int .i64 x.sums.d, .slice ar2 x.ready.length cr2, .slice ad2 x.done.length cd2] 29)).cell? ⟨w6.heap.size, i, none⟩ = some u) => hW.sub _ _ e
          refine ⟨k 0 _ ?_, k 1 _ ?_, k 2 _ ?_, k 3 _ ?_, k 4 _ ?_, k 5 _ ?_, k 6 _ ?_, m 0 _ ?_, m 1 _ ?_, m 2 _ ?_, m 3 _ ?_, m 4 _ ?_, m 5 _ ?_, m 6 _ ?_⟩ <;> (rw [World.cell?_alloc_new]; rfl)
        have HW1' := Lib.hid (fun (W : World) (hW : Grow (w6.alloc (.cells #[.slice al2 x.log.length cl2, .int .i64 x.sums.a, .int .i64 x.sums.b, .int .i64 x.sums.c, .int .i64 x.sums.d, .slice ar2 x.ready.length cr2, .slice ad2 x.done.length cd2] 29)) W) => HW1.out W (by have h1 := G6.out; have h2 := (Grow.refl w3).alloc (.cells #[.slice al1 h.log.length cl1, .int .i64 h.sums.a, .int .i64 h.sums.b, .int .i64 h.sums.c, .int .i64 h.sums.d, .slice ar1 h.ready.length cr1, .slice ad1 h.done.length cd1] 29); exact (h2.trans h1).trans (((Grow.refl w6).alloc _).trans hW)))
        have HW2' := Lib.hid (fun (W : World) (hW : Grow (w6.alloc (.cells #[.slice al2 x.log.length cl2, .int .i64 x.sums.a, .int .i64 x.sums.b, .int .i64 x.sums.c, .int .i64 x.sums.d, .slice ar2 x.ready.length cr2, .slice ad2 x.done.length cd2] 29)) W) => HW2.out W (((Grow.refl w6).alloc _).trans hW))
        clear HW1 HW2
        generalize whoE h.ready key = wo at *
        generalize whoE x.ready key = wn at *
        generalize hW7 : (w6.alloc (.cells #[.slice al2 x.log.length cl2, .int .i64 x.sums.a, .int .i64 x.sums.b, .int .i64 x.sums.c, .int .i64 x.sums.d, .slice ar2 x.ready.length cr2, .slice ad2 x.done.length cd2] 29)) = w7 at *
        have HW7 := Lib.hid hW7
        clear hW7 cw6 fw6 z6 z5 z4
        go_region_held3 (fun w' => w'.cell? ⟨w3.heap.size, 0, none⟩ = some (.slice al1 h.log.length cl1) ∧ w'.cell? ⟨w3.heap.size, 1, none⟩ = some (.int .i64 h.sums.a) ∧ w'.cell? ⟨w3.heap.size, 2, none⟩ = some (.int .i64 h.sums.b) ∧ w'.cell? ⟨w3.heap.size, 3, none⟩ = some (.int .i64 h.sums.c) ∧ w'.cell? ⟨w3.heap.size, 4, none⟩ = some (.int .i64 h.sums.d) ∧ w'.cell? ⟨w3.heap.size, 5, none⟩ = some (.slice ar1 h.ready.length cr1) ∧ w'.cell? ⟨w3.heap.size, 6, none⟩ = some (.slice ad1 h.done.length cd1) ∧ w'.cell? ⟨w6.heap.size, 0, none⟩ = some (.slice al2 x.log.length cl2) ∧ w'.cell? ⟨w6.heap.size, 1, none⟩ = some (.int .i64 x.sums.a) ∧ w'.cell? ⟨w6.heap.size, 2, none⟩ = some (.int .i64 x.sums.b) ∧ w'.cell? ⟨w6.heap.size, 3, none⟩ = some (.int .i64 x.sums.c) ∧ w'.cell? ⟨w6.heap.size, 4, none⟩ = some (.int .i64 x.sums.d) ∧ w'.cell? ⟨w6.heap.size, 5, none⟩ = some (.slice ar2 x.ready.length cr2) ∧ w'.cell? ⟨w6.heap.size, 6, none⟩ = some (.slice ad2 x.done.length cd2)) (first | assumption | exact HS.out _ (by repeat (first | with_reducible assumption | with_reducible exact Grow.refl _ | with_reducible apply Grow.drewN | with_reducible apply Grow.drew | with_reducible apply Grow.alloc | (refine Grow.trans ?_ (by with_reducible assumption))))) (first | (go_at_call 31; first | ((with_reducible refine (HW1'.out _ (by repeat (first | with_reducible assumption | with_reducible exact Grow.refl _ | with_reducible apply Grow.drewN | with_reducible apply Grow.drew | with_reducible apply Grow.alloc | (refine Grow.trans ?_ (by with_reducible assumption))))).mono ?_); rintro e wa ⟨rfl, hba⟩) | ((with_reducible refine (HW2'.out _ (by repeat (first | with_reducible assumption | with_reducible exact Grow.refl _ | with_reducible apply Grow.drewN | with_reducible apply Grow.drew | with_reducible apply Grow.alloc | (refine Grow.trans ?_ (by with_reducible assumption))))).mono ?_); rintro e wb ⟨rfl, hbb⟩)))
        have HF : Hid (deed < 0 ∨ wn ≠ deed ∧ (wo = deed ∨ wo = wn)) := by
          by_cases h0 : deed < 0
          · exact .inl h0
          · exact .inr (HLAW.out (by omega))
        have HGW : Hid (Grow w w7) := by rw [← HW7.out]; exact GW6.out.alloc _
        go_wp2
        all_goals
          go_ret
          refine ⟨ret_bool ?_, HGW.out.trans (by repeat (first | with_reducible assumption | with_reducible exact Grow.refl _ | with_reducible apply Grow.drewN | with_reducible apply Grow.drew | with_reducible apply Grow.alloc | (refine Grow.trans ?_ (by with_reducible assumption))))⟩
          have hf := HF.out
          first
            | rfl
            | (simp; omega)
      · go_enter Try.func5, Try.ntmps5
        go_wp2_with fail
        refine HA.out.mono ?_
        rintro e w1 ⟨rfl, hb1⟩
        have HB1 := Lib.hid hb1
        clear hb1
        go_wp2_with fail
        refine (HRL.out _ HB1.out).mono ?_
        rw [HOK.out]
        rintro e w2 ⟨rfl, hb2⟩
        have HB2 := Lib.hid (HB1.out.trans hb2)
        clear hb2
        go_wp2_with fail
        refine (HHS.out _ HB2.out).mono ?_
        rintro e w3 ⟨vh, rfl, hO, hb3⟩
        have HB3 := Lib.hid (HB2.out.trans hb3)
        obtain ⟨al1, cl1, ar1, cr1, ad1, cd1, rfl⟩ := hO.hs_form
        have HO := Lib.hid hO
        clear hO hb3
        have HW1 := Lib.hid (fun (W : World) (hW : Grow w3 W) => locks_who (key := key) W (HO.out.mono hW.sub))
        generalize houseR l = h at *
        go_wp2_with (first | (at_builtin; refine wpList_appc ei_rc rfl one_Trc (by decide) rfl (.tmp 28) (.tmp 29) rfl rfl (OwnC.made0 Ty.rc w.cell? _ (w3.heap.size + 1) _ ?c1 ?c1') rfl (HSRC.out _ ?c2) ?c3 ?c4 ?_))
        case c1 => simp
        case c1' => simp
        case c2 => exact (HB3.out.alloc _).alloc _
        case c3 => simp; omega
        case c4 => simp
        intro a1 c1 w4 hown1 hg1 hb1
        try simp only [List.length_nil, Nat.zero_add, List.nil_append] at hown1 hb1 ⊢
        have g4 := grow_by (w0 := (w3.alloc (.cells #[.slice al1 h.log.length cl1, .int .i64 h.sums.a, .int .i64 h.sums.b, .int .i64 h.sums.c, .int .i64 h.sums.d, .slice ar1 h.ready.length cr1, .slice ad1 h.done.length cd1] 29))) ((Grow.refl _).alloc _) hg1 (own_at (by simp))
        have b4 := own_new (B := w3.heap.size + 1) (by simp) hb1 (own_at (Nat.le_refl _))
        have GW4 : Hid (Grow w w4) := Lib.hid ((HB3.out.alloc _).trans g4)
        have HO4 := Lib.hid hown1
        have HG4 := Lib.hid g4
        have HB4 := Lib.hid b4
        obtain ⟨cw4, fw4⟩ := bcell g4
        have z4 : w3.heap.size < w4.heap.size := by have := g4.size; simp at this; omega
        clear hown1 hg1 hb1 g4 b4
        go_wp2_with (first | (at_builtin; refine wpList_appc (c := w.cell?) (base := w3.heap.size + 1) (m := [⟨3, deed, []⟩]) ei_rc rfl one_Trc (by decide) rfl (.tmp 30) (.tmp 34) rfl rfl (HO4.out.grow ((Grow.refl _).alloc _)) rfl (Src.of_new (cs := #[.int .i64 3, .int .i64 deed, .slice none 0 0]) ?d0 _ _ ?d1) ?d2 ?d3 ?_))
        case d0 => exact ⟨_, rfl, HI.out.2, HI.out.1, Sl.nil _ _⟩
        case d1 => rfl
        case d2 => simp; omega
        case d3 => simp; omega
        intro a2 c2 w5 hown2 hg2 hb2
        have g5 := grow_by (w0 := (w3.alloc (.cells #[.slice al1 h.log.length cl1, .int .i64 h.sums.a, .int .i64 h.sums.b, .int .i64 h.sums.c, .int .i64 h.sums.d, .slice ar1 h.ready.length cr1, .slice ad1 h.done.length cd1] 29))) (HG4.out.alloc _) hg2 (fun k hk => by have := HB4.out k hk; simpa using this)
        have GW5 : Hid (Grow w w5) := Lib.hid ((HB3.out.alloc _).trans g5)
        have HG5 := Lib.hid g5
        have hv5 := hown2.sl (by decide) GW5.out.sub
        have HV5 := Lib.hid hv5
        obtain ⟨cw5, fw5⟩ := bcell g5
        have z5 : w3.heap.size < w5.heap.size := by have := g5.size; simp at this; omega
        clear hown2 hg2 hb2 g5 hv5 cw4 fw4
        go_wp2_with fail
        refine (ref_house w5 HV5.out (by intro r hr; rcases List.mem_append.1 hr with hr | hr; exact HKS.out r hr; simp at hr; subst hr; intro p hp; simp at hp) (by simp; omega)).mono ?_
        rintro e w6 ⟨vx, rfl, hX, hb6⟩
        obtain ⟨al2, cl2, ar2, cr2, ad2, cd2, rfl⟩ := hX.hs_form
        have HX := Lib.hid hX
        have G6 : Hid (Grow (w3.alloc (.cells #[.slice al1 h.log.length cl1, .int .i64 h.sums.a, .int .i64 h.sums.b, .int .i64 h.sums.c, .int .i64 h.sums.d, .slice ar1 h.ready.length cr1, .slice ad1 h.done.length cd1] 29)) w6) := Lib.hid (HG5.out.trans hb6)
        have GW6 : Hid (Grow w w6) := Lib.hid (GW5.out.trans hb6)
        obtain ⟨cw6, fw6⟩ := bcell G6.out
        have z6 : w3.heap.size < w6.heap.size := by have := G6.out.size; simp at this; omega
        have HW2 := Lib.hid (fun (W : World) (hW : Grow w6 W) => locks_who (key := key) W (HX.out.mono hW.sub))
        clear hX hb6 cw5 fw5
        generalize houseR (l ++ [⟨3, deed, []⟩]) = x at *
        go_wp2_with fail
        have HS : Hid (∀ W, Grow (w6.alloc (.cells #[.slice al2 x.log.length cl2, .int .i64 x.sums.a, .int .i64 x.sums.b, .int .i64 x.sums.c, .int .i64 x.sums.d, .slice ar2 x.ready.length cr2, .slice ad2 x.done.length cd2] 29)) W → W.cell? ⟨w3.heap.size, 0, none⟩ = some (.slice al1 h.log.length cl1) ∧ W.cell? ⟨w3.heap.size, 1, none⟩ = some (.int .i64 h.sums.a) ∧ W.cell? ⟨w3.heap.size, 2, none⟩ = some (.int .i64 h.sums.b) ∧ W.cell? ⟨w3.heap.size, 3, none⟩ = some (.int .i64 h.sums.c) ∧ W.cell? ⟨w3.heap.size, 4, none⟩ = some (.int .i64 h.sums.d) ∧ W.cell? ⟨w3.heap.size, 5, none⟩ = some (.slice ar1 h.ready.length cr1) ∧ W.cell? ⟨w3.heap.size, 6, none⟩ = some (.slice ad1 h.done.length cd1) ∧ W.cell? ⟨w6.heap.size, 0, none⟩ = some (.slice al2 x.log.length cl2) ∧ W.cell? ⟨w6.heap.size, 1, none⟩ = some (.int .i64 x.sums.a) ∧ W.cell? ⟨w6.heap.size, 2, none⟩ = some (.int .i64 x.sums.b) ∧ W.cell? ⟨w6.heap.size, 3, none⟩ = some (.int .i64 x.sums.c) ∧ W.cell? ⟨w6.heap.size, 4, none⟩ = some (.int .i64 x.sums.d) ∧ W.cell? ⟨w6.heap.size, 5, none⟩ = some (.slice ar2 x.ready.length cr2) ∧ W.cell? ⟨w6.heap.size, 6, none⟩ = some (.slice ad2 x.done.length cd2)) := fun W hW => by
          have k := fun i u (e : (w3.alloc (.cells #[.slice al1 h.log.length cl1, .int .i64 h.sums.a, .int .i64 h.sums.b, .int .i64 h.sums.c, .int .i64 h.sums.d, .slice ar1 h.ready.length cr1, .slice ad1 h.done.length cd1] 29)).cell? ⟨w3.heap.size, i, none⟩ = some u) => (((Grow.refl w6).alloc _).trans hW).sub _ _ (G6.out.sub _ _ e)
          have m := fun i u (e : (w6.alloc (.cells #[.slice al2 x.log.length cl2, .int .i64 x.sums.a, .int .i64 x.sums.b, .int .i64 x.sums.c, .int .i64 x.sums.d, .slice ar2 x.ready.length cr2, .slice ad2 x.done.length cd2] 29)).cell? ⟨w6.heap.size, i, none⟩ = some u) => hW.sub _ _ e
          refine ⟨k 0 _ ?_, k 1 _ ?_, k 2 _ ?_, k 3 _ ?_, k 4 _ ?_, k 5 _ ?_, k 6 _ ?_, m 0 _ ?_, m 1 _ ?_, m 2 _ ?_, m 3 _ ?_, m 4 _ ?_, m 5 _ ?_, m 6 _ ?_⟩ <;> (rw [World.cell?_alloc_new]; rfl)
        have HW1' := Lib.hid (fun (W : World) (hW : Grow (w6.alloc (.cells #[.slice al2 x.log.length cl2, .int .i64 x.sums.a, .int .i64 x.sums.b, .int .i64 x.sums.c, .int .i64 x.sums.d, .slice ar2 x.ready.length cr2, .slice ad2 x.done.length cd2] 29)) W) => HW1.out W (by have h1 := G6.out; have h2 := (Grow.refl w3).alloc (.cells #[.slice al1 h.log.length cl1, .int .i64 h.sums.a, .int .i64 h.sums.b, .int .i64 h.sums.c, .int .i64 h.sums.d, .slice ar1 h.ready.length cr1, .slice ad1 h.done.length cd1] 29); exact (h2.trans h1).trans (((Grow.refl w6).alloc _).trans hW)))
        have HW2' := Lib.hid (fun (W : World) (hW : Grow (w6.alloc (.cells #[.slice al2 x.log.length cl2, .int .i64 x.sums.a, .int .i64 x.sums.b, .int .i64 x.sums.c, .int .i64 x.sums.d, .slice ar2 x.ready.length cr2, .slice ad2 x.done.length cd2] 29)) W) => HW2.out W (((Grow.refl w6).alloc _).trans hW))
        clear HW1 HW2
        generalize whoE h.ready key = wo at *
        generalize whoE x.ready key = wn at *
        generalize hW7 : (w6.alloc (.cells #[.slice al2 x.log.length cl2, .int .i64 x.sums.a, .int .i64 x.sums.b, .int .i64 x.sums.c, .int .i64 x.sums.d, .slice ar2 x.ready.length cr2, .slice ad2 x.done.length cd2] 29)) = w7 at *
        have HW7 := Lib.hid hW7
        clear hW7 cw6 fw6 z6 z5 z4
        go_region_held3 (fun w' => w'.cell? ⟨w3.heap.size, 0, none⟩ = some (.slice al1 h.log.length cl1) ∧ w'.cell? ⟨w3.heap.size, 1, none⟩ = some (.int .i64 h.sums.a) ∧ w'.cell? ⟨w3.heap.size, 2, none⟩ = some (.int .i64 h.sums.b) ∧ w'.cell? ⟨w3.heap.size, 3, none⟩ = some (.int .i64 h.sums.c) ∧ w'.cell? ⟨w3.heap.size, 4, none⟩ = some (.int .i64 h.sums.d) ∧ w'.cell? ⟨w3.heap.size, 5, none⟩ = some (.slice ar1 h.ready.length cr1) ∧ w'.cell? ⟨w3.heap.size, 6, none⟩ = some (.slice ad1 h.done.length cd1) ∧ w'.cell? ⟨w6.heap.size, 0, none⟩ = some (.slice al2 x.log.length cl2) ∧ w'.cell? ⟨w6.heap.size, 1, none⟩ = some (.int .i64 x.sums.a) ∧ w'.cell? ⟨w6.heap.size, 2, none⟩ = some (.int .i64 x.sums.b) ∧ w'.cell? ⟨w6.heap.size, 3, none⟩ = some (.int .i64 x.sums.c) ∧ w'.cell? ⟨w6.heap.size, 4, none⟩ = some (.int .i64 x.sums.d) ∧ w'.cell? ⟨w6.heap.size, 5, none⟩ = some (.slice ar2 x.ready.length cr2) ∧ w'.cell? ⟨w6.heap.size, 6, none⟩ = some (.slice ad2 x.done.length cd2)) (first | assumption | exact HS.out _ (by repeat (first | with_reducible assumption | with_reducible exact Grow.refl _ | with_reducible apply Grow.drewN | with_reducible apply Grow.drew | with_reducible apply Grow.alloc | (refine Grow.trans ?_ (by with_reducible assumption))))) (first | (go_at_call 31; first | ((with_reducible refine (HW1'.out _ (by repeat (first | with_reducible assumption | with_reducible exact Grow.refl _ | with_reducible apply Grow.drewN | with_reducible apply Grow.drew | with_reducible apply Grow.alloc | (refine Grow.trans ?_ (by with_reducible assumption))))).mono ?_); rintro e wa ⟨rfl, hba⟩) | ((with_reducible refine (HW2'.out _ (by repeat (first | with_reducible assumption | with_reducible exact Grow.refl _ | with_reducible apply Grow.drewN | with_reducible apply Grow.drew | with_reducible apply Grow.alloc | (refine Grow.trans ?_ (by with_reducible assumption))))).mono ?_); rintro e wb ⟨rfl, hbb⟩)))
        have HF : Hid (deed < 0 ∨ wn ≠ deed ∧ (wo = deed ∨ wo = wn)) := by
          by_cases h0 : deed < 0
          · exact .inl h0
          · exact .inr (HLAW.out (by omega))
        have HGW : Hid (Grow w w7) := by rw [← HW7.out]; exact GW6.out.alloc _
        go_wp2
        all_goals
          go_ret
          refine ⟨ret_bool ?_, HGW.out.trans (by repeat (first | with_reducible assumption | with_reducible exact Grow.refl _ | with_reducible apply Grow.drewN | with_reducible apply Grow.drew | with_reducible apply Grow.alloc | (refine Grow.trans ?_ (by with_reducible assumption))))⟩
          have hf := HF.out
          first
            | rfl
            | (simp; omega)
    · have hk2 : (kind != 2) = true := by simp; omega
      have hk3 : (kind != 3) = true := by simp; omega
      clear hk
      go_enter Try.func5, Try.ntmps5
      go_wp2_with fail
      refine HA.out.mono ?_
      rintro e w1 ⟨rfl, hb1⟩
      have HB1 := Lib.hid hb1
      clear hb1
      go_wp2_with fail
      refine (HRL.out _ HB1.out).mono ?_
      rw [HOK.out]
      rintro e w2 ⟨rfl, hb2⟩
      have HB2 := Lib.hid (HB1.out.trans hb2)
      clear hb2
      go_wp2
      go_ret
      exact ⟨rfl, HB2.out⟩

theorem locksGo_law {v : Value} {l : List Rc} {deed kind key : Int} (w : World) (hv : Sl Ty.rc w.cell? v l) (_hs : l.length * 40 ≤ 140737488351232) (hd : (Lit.int .i64 deed).wf = true) (hki : (Lit.int .i64 kind).wf = true) (_hk : (Lit.int .i64 key).wf = true) :
    Calls Try.prog 5 #[v, .int .i64 deed, .int .i64 kind, .int .i64 key] w fun e w' => e = .returned (.bool true) ∧ Grow w w' := locksGo_walk w hv hd hki
end Go.Proofs.Ytgbhpghgohggcaa
