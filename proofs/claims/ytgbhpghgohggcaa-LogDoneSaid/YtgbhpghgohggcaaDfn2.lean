/- Walks: slices.DeleteFunc on a row of the call's own, whose elements read in a memory that stays. -/
import Derived.Test.YtgbhpghgohggcaaDfn
namespace Go.Proofs.Ytgbhpghgohggcaa
open Go.RowKit
set_option maxRecDepth 100000 in
set_option maxHeartbeats 1000000 in
theorem deleteFunc_opn_c {c : CM} {w : World} {base : Nat} {v : Value} {l : List Opn} {F : FuncId} {caps : Array Value} {p : Opn → Bool} (hc : Sub c (frag w v.ownBlock)) (ho : OwnC Ty.opn c w base 136 v l) (hp : TellsG Try.prog Ty.opn aggOf w v.ownBlock F caps l p) :
    Calls Try.prog 124 #[v, .func (.func F) #[] caps] w fun e w' => ∃ v', e = .returned v' ∧ OwnC Ty.opn c w' base 136 v' (l.filter fun x => !p x) ∧ w.grownBy w' v.ownBlock ∧ v'.ownBlock = v.ownBlock := by
  have hIdx := indexFunc_opn w (OwnC.sl (by decide) (hc.trans (frag_sub _ _)) ho) hp.tells
  cases hfi : l.findIdx? p with
  | none =>
    have hx : idxOf p l = -1 := by rw [idxOf, hfi]
    have HF := Lib.hid (filter_none hfi)
    rw [hx] at hIdx
    have HI := Lib.hid hIdx
    have HO := Lib.hid ho
    clear hIdx hx hfi ho hp
    go_enter Try.func124, Try.ntmps124
    go_wp2_with (go_at_call 156; refine HI.out.mono ?_; rintro e w1 ⟨rfl, hb1⟩)
    go_ret
    exact ⟨_, rfl, by rw [HF.out]; exact HO.out.grow hb1, grownBy_of_grow hb1 _, rfl⟩
  | some k =>
    have hx : idxOf p l = k := by rw [idxOf, hfi]
    rw [hx] at hIdx
    rw [List.findIdx?_eq_some_iff_getElem] at hfi
    obtain ⟨hk, hpk, hbefore⟩ := hfi
    obtain ⟨css, hown, hcl0, hR⟩ := ho
    have hcl := css_len hcl0 hR
    obtain ⟨hl, ⟨rfl, hn⟩ | ⟨g, cap, cur, rfl, hb, hg, hnc, hcm, hcs, htake⟩⟩ := id hown
    · omega
    have hbl : (Value.slice (some (⟨g, 0, none⟩ : Addr)) l.length cap).ownBlock = some g := rfl
    rw [hbl] at hp hc ⊢
    have HCC := Lib.hid hc
    clear hc
    have hf0 : (l.take (k + 1)).filter (fun x => !p x) = l.take k := by
      rw [filter_take_succ _ hk, hpk]
      simp only [Bool.not_true, Bool.false_eq_true, if_false, List.append_nil]
      rw [List.filter_eq_self]
      intro x hx
      obtain ⟨j, hj, rfl⟩ := List.mem_iff_getElem.1 hx
      have := hbefore j (by simp at hj; omega)
      simpa using this
    have hkne : ((k : Int) == -1) = false := by rw [beq_eq_false_iff_ne]; omega
    have hcm' : cap ≤ 9223372036854775807 := by unfold maxLen at hcm; omega
    have HI := Lib.hid hIdx
    have HO := Lib.hid hown
    have HR := Lib.hid hR
    have HP := Lib.hid hp.say
    have eg := hp.ent
    have HF := Lib.hid hf0
    have HC := Lib.hid hcl
    have HC0 := Lib.hid hcl0
    clear hIdx hown hR hp hf0 hcl hcl0 hl hg htake hcs hb hcm hbefore hpk hx
    go_enter Try.func124, Try.ntmps124
    go_wp2_with (go_at_call 156; refine HI.out.mono ?_; rintro e w1 ⟨rfl, hb1⟩)
    go_loopw [5, 6, 7] (fun si sj _ wr => ∃ (i j : Nat) (css' : List (List Value)), i < j ∧ j ≤ l.length ∧ si = .int .i64 i ∧ sj = .int .i64 j ∧ w.grownBy wr (some g) ∧ css'.length = l.length ∧ (∀ cs ∈ css', cs.length = 4) ∧
        wr.ownsRow base 136 4 (.slice (some ⟨g, 0, none⟩) l.length cap) l.length css'.flatten ∧ css'.drop j = css.drop j ∧ ((l.take j).filter fun x => !p x).length = i ∧
        ∀ (a : Nat) (cs : List Value) (x : Opn), a < i → css'[a]? = some cs → ((l.take j).filter fun x => !p x)[a]? = some x → Ty.opn.R c cs x) (fun _ sj _ _ => l.length - (intOf sj).toNat)
    case atStart =>
      refine ⟨k, k + 1, css, by omega, by omega, rfl, by go_num, grownBy_of_grow hb1 _, HC0.out, HC.out, HO.out.kept (grownBy_of_grow hb1 none) (by right; simp [Value.ownBlock]), rfl, by rw [HF.out]; simp; omega, fun a cs x ha h1 h2 => ?_⟩
      rw [HF.out, List.getElem?_take, if_pos ha] at h2
      exact HR.out a cs x h1 h2
    case round =>
      obtain ⟨i, j, css', hij, hj', rfl, rfl, hgr, hl', hcs', hown', hdrop, hfl, hRi⟩ := hrel
      have HOWN := Lib.hid hown'
      have HCS := Lib.hid hcs'
      have HD := Lib.hid hdrop
      have HFL := Lib.hid hfl
      have HRI := Lib.hid hRi
      have HL' := Lib.hid hl'
      have HGR := Lib.hid hgr
      clear hown' hcs' hdrop hfl hRi hl' hgr hb1
      by_cases hlt : j < l.length
      · have hjc : css[j]? = some css[j]! := by rw [List.getElem?_eq_getElem (by rw [HC0.out]; exact hlt), getElem!_pos css j (by rw [HC0.out]; exact hlt)]
        obtain ⟨v1, v2, hcsj, hRR⟩ := HR.out j _ l[j] hjc (List.getElem?_eq_getElem hlt)
        obtain ⟨sa1, sc1, rfl, -⟩ := id hRR.2.1; obtain ⟨sa2, sc2, rfl, -⟩ := id hRR.2.2
        have hjc' : css'[j]? = some css[j]! := by
          have : (css'.drop j)[0]? = (css.drop j)[0]? := by rw [HD.out]
          rw [List.getElem?_drop, List.getElem?_drop, Nat.add_zero, hjc] at this
          exact this
        rw [hcsj] at hjc hjc'
        have hcj : ∀ (t : Nat) (u : Value), ([.int .i64 l[j].deed, .slice sa1 l[j].parts.length sc1, .bool l[j].dec, .slice sa2 l[j].heard.length sc2])[t]? = some u → t < 4 → wr.cell? ⟨g, j * 4 + t, none⟩ = some u := by
          intro t u hu ht
          rw [HOWN.out.cellAt _ (by omega), flatten_at (size := 4) (by decide) css' HCS.out, show (j * 4 + t) / 4 = j by omega, show (j * 4 + t) % 4 = t by omega, hjc']
          exact hu
        have hci : ∀ (t : Nat), t < 4 → ∃ u, wr.cell? ⟨g, i * 4 + t, none⟩ = some u := by
          intro t ht
          exact ⟨_, by rw [HOWN.out.cellAt _ (by omega)]; exact List.getElem?_eq_getElem (by rw [HOWN.out.1]; omega)⟩
        have hfz : ∀ o, wr.frozen? ⟨g, o, none⟩ = false := HOWN.out.frozenAt
        have hgl : g < wr.heap.size := (HOWN.out.lt g rfl).2
        have c0 : wr.cell? ⟨g, j * 4, none⟩ = some (.int .i64 l[j].deed) := hcj 0 _ rfl (by decide)
        have c1 : wr.cell? ⟨g, j * 4 + 1, none⟩ = some (.slice sa1 l[j].parts.length sc1) := hcj 1 _ rfl (by decide)
        have c2 : wr.cell? ⟨g, j * 4 + 2, none⟩ = some (.bool l[j].dec) := hcj 2 _ rfl (by decide)
        have c3 : wr.cell? ⟨g, j * 4 + 3, none⟩ = some (.slice sa2 l[j].heard.length sc2) := hcj 3 _ rfl (by decide)
        obtain ⟨u0, hu0⟩ : ∃ u, wr.cell? ⟨g, i * 4, none⟩ = some u := hci 0 (by decide)
        obtain ⟨u1, hu1⟩ : ∃ u, wr.cell? ⟨g, i * 4 + 1, none⟩ = some u := hci 1 (by decide)
        obtain ⟨u2, hu2⟩ : ∃ u, wr.cell? ⟨g, i * 4 + 2, none⟩ = some u := hci 2 (by decide)
        obtain ⟨u3, hu3⟩ : ∃ u, wr.cell? ⟨g, i * 4 + 3, none⟩ = some u := hci 3 (by decide)
        have hRw : Ty.opn.R c [.int .i64 l[j].deed, .slice sa1 l[j].parts.length sc1, .bool l[j].dec, .slice sa2 l[j].heard.length sc2] l[j] := ⟨_, _, rfl, hRR⟩
        have hsay := fun (W : World) (hW : Grow wr W) => HP.out W _ l[j] (grownBy_trans HGR.out (grownBy_of_grow hW _)) (List.getElem_mem _) (Ty.opn.mono (Sub.trans HCC.out (Sub.trans (frag_grown (grownBy_trans HGR.out (grownBy_of_grow hW _))) (frag_sub _ _))) hRw)
        have hstep := filter_take_succ (fun x => !p x) hlt
        have HS := Lib.hid hsay
        have HST := Lib.hid hstep
        have HRW := Lib.hid hRw
        clear hsay hstep hcj hci hRw hRR hjc hjc' hcsj
        simp only [aggOf] at HS
        skip
        cases hq : p l[j]
        · rw [hq] at HS HST
          generalize l[j] = q at *
          go_wp2_with (go_at_fn F; refine (HS.out _ ((Grow.refl wr).alloc _)).mono ?_; rintro e w1 ⟨rfl, hb1⟩; have e0 := hb1.sub ⟨wr.heap.size, 0, none⟩ _ (World.cell?_alloc_new wr _ _ 0); have e1 := hb1.sub ⟨wr.heap.size, 1, none⟩ _ (World.cell?_alloc_new wr _ _ 1); have e2 := hb1.sub ⟨wr.heap.size, 2, none⟩ _ (World.cell?_alloc_new wr _ _ 2); have e3 := hb1.sub ⟨wr.heap.size, 3, none⟩ _ (World.cell?_alloc_new wr _ _ 3); simp at e0 e1 e2 e3; have d0 := (((Grow.refl wr).alloc _).trans hb1).sub _ _ hu0; have d1 := (((Grow.refl wr).alloc _).trans hb1).sub _ _ hu1; have d2 := (((Grow.refl wr).alloc _).trans hb1).sub _ _ hu2; have d3 := (((Grow.refl wr).alloc _).trans hb1).sub _ _ hu3; have df : ∀ o, w1.frozen? ⟨g, o, none⟩ = false := fun o => ((((Grow.refl wr).alloc _).trans hb1).frozen (p := ⟨g, o, none⟩) hgl).trans (hfz o); have dz := hb1.size; have HB1 := Lib.hid hb1; clear hb1)
          obtain ⟨hset, hsg⟩ := owns_set (cs := [.int .i64 q.deed, .slice sa1 q.parts.length sc1, .bool q.dec, .slice sa2 q.heard.length sc2]) (i := i) HCS.out (HOWN.out.kept (grownBy_of_grow (((Grow.refl wr).alloc _).trans HB1.out) none) (by right; simp [Value.ownBlock])) (by rw [HL'.out]; omega) rfl
          have HSET := Lib.hid hset
          have HSG := Lib.hid hsg
          clear hset hsg
          go_roundw
          case rel =>
            refine ⟨i + 1, j + 1, css'.set i [.int .i64 q.deed, .slice sa1 q.parts.length sc1, .bool q.dec, .slice sa2 q.heard.length sc2], by omega, by omega, by go_num, by go_num, grownBy_trans (grownBy_trans HGR.out (grownBy_of_grow (((Grow.refl wr).alloc _).trans HB1.out) _)) HSG.out, by simpa using HL'.out, ?_, HSET.out, ?_, ?_, ?_⟩
            · intro cs hc
              rcases List.mem_or_eq_of_mem_set hc with h | rfl
              · exact HCS.out cs h
              · rfl
            · rw [List.drop_set_of_lt (by omega)]
              have : (css'.drop j).drop 1 = (css.drop j).drop 1 := by rw [HD.out]
              simpa [List.drop_drop] using this
            · rw [HST.out]; simp [HFL.out]
            · intro a cs x ha h1 h2
              rw [HST.out] at h2
              simp only [Bool.not_false, if_true] at h2
              by_cases hai : a < i
              · rw [List.getElem?_set_ne (by omega)] at h1
                rw [List.getElem?_append_left (by rw [HFL.out]; exact hai)] at h2
                exact HRI.out a cs x hai h1 h2
              · obtain rfl : a = i := by omega
                rw [List.getElem?_append_right (by rw [HFL.out]; omega), HFL.out, Nat.sub_self] at h2
                rw [List.getElem?_set_self (by rw [HL'.out]; omega)] at h1
                obtain rfl := Option.some.inj h1
                obtain rfl := Option.some.inj h2
                exact HRW.out
          case measure => simp [intOf]; omega
        · rw [hq] at HS HST
          generalize l[j] = q at *
          go_wp2_with (go_at_fn F; refine (HS.out _ ((Grow.refl wr).alloc _)).mono ?_; rintro e w1 ⟨rfl, hb1⟩)
          have HB1 := Lib.hid hb1
          clear hb1
          go_roundw
          case rel =>
            refine ⟨i, j + 1, css', by omega, by omega, rfl, by go_num, grownBy_trans HGR.out (grownBy_of_grow (((Grow.refl wr).alloc _).trans HB1.out) _), HL'.out, HCS.out, HOWN.out.kept (grownBy_of_grow (((Grow.refl wr).alloc _).trans HB1.out) none) (by right; simp [Value.ownBlock]), ?_, ?_, ?_⟩
            · have : (css'.drop j).drop 1 = (css.drop j).drop 1 := by rw [HD.out]
              simpa [List.drop_drop] using this
            · rw [HST.out]; simp [HFL.out]
            · intro a cs x ha h1 h2
              rw [HST.out] at h2
              simp only [Bool.not_true, Bool.false_eq_true, if_false, List.append_nil] at h2
              exact HRI.out a cs x ha h1 h2
          case measure => simp [intOf]; omega
      · obtain rfl : j = l.length := by omega
        have hic : i ≤ cap := by omega
        obtain ⟨w2, hcl, HO2, HG2⟩ := clear_run ei_opn 0 HOWN.out i (l.length - i) (cap - i) (some ⟨g, i * 4, none⟩) (by omega) (fun _ => rfl) (by omega)
        have HCL := Lib.hid hcl
        have HO2' := Lib.hid HO2
        have HG2' := Lib.hid HG2
        clear hcl HO2 HG2 eg
        have hil : i < cap := by omega
        have hil2 : i ≤ l.length := by omega
        go_wp2_with fail
        rw [HCL.out]
        go_wp2
        go_ret
        refine ⟨_, rfl, ?_, grownBy_trans HGR.out HG2'.out, rfl⟩
        have hfin : (l.filter fun x => !p x).length = i := by have := HFL.out; rw [List.take_of_length_le (Nat.le_refl _)] at this; exact this
        refine ⟨css'.take i, ?_, by rw [List.length_take, HL'.out, hfin]; omega, fun a cs x h1 h2 => ?_⟩
        · have h := HO2'.out
          rw [flatten_take css' i HCS.out] at h
          rw [hfin]; exact h
        · rw [List.getElem?_take] at h1
          split at h1
          · rename_i hai
            have h3 := HRI.out a cs x hai h1 (by rw [List.take_of_length_le (Nat.le_refl _)]; exact h2)
            exact h3
          · cases h1

end Go.Proofs.Ytgbhpghgohggcaa
