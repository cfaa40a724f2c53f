/- The parts that PartBack is proved of, joined: R3, R4, E2, K12, A1, B3, Lit, K13, Trod, Trod2, Trod3. No condition beside those that each theorem names. -/
import Derived.Sort.OwnSortedInts
import Derived.Test.YtgbhpghgohggcaaShelf
import Derived.Deep.Slices
import Derived.OpenShut
import Derived.Below
import Derived.ChangeOld
import Derived.ProofKit
import Derived.SizedLaws
import Derived.Test.YtgbhpghgohggcaaJPartBackb
/- Walks: Houses of the program's parts. -/
namespace Go.Proofs.Ytgbhpghgohggcaa
open Go.RowKit
theorem flat_ints (l : List Int) : l.flatMap intCell = l.map (Value.int .i64) := by
  induction l with
  | nil => rfl
  | cons x l ih => rw [List.flatMap_cons, ih]; rfl
/-- a row of numbers of the call's own, sorted -/
theorem own_sort {w : World} {base : Nat} {v : Value} {l : List Int} (h : w.ownsRow base 3 1 v l.length (l.flatMap intCell)) (hne : l ≠ []) (hs : l.length < 4611686018427387904) :
    ∃ g, v.ownBlock = some g ∧ base ≤ g ∧ Calls Try.prog 139 #[v] w fun e w' => e = .returned (.tuple #[]) ∧ w'.ownsRow base 3 1 v (l.mergeSort fun x y => decide (x ≤ y)).length ((l.mergeSort fun x y => decide (x ≤ y)).flatMap intCell) ∧ w.grownBy w' (some g) := by
  obtain ⟨hl, ⟨rfl, hn⟩ | ⟨g, cap, cur, rfl, hg, hrow, hnc, hcm, hcs, htake⟩⟩ := h
  · exact absurd (List.eq_nil_of_length_eq_zero hn) hne
  · have ht : cur.toList.take l.length = l.map (Value.int .i64) := by rw [← flat_ints, ← htake, Nat.mul_one]
    refine ⟨g, rfl, hg, (Try.slices_Sort_int g 0 cap l w (holds_of_blockI hrow ht) (Array.getElem?_eq_some_iff.1 hrow).1 hs).mono fun e w' ⟨he, n, os, hw⟩ => ⟨he, ?_, ?_⟩⟩
    · have e : (l.mergeSort fun x y => decide (x ≤ y)).length = l.length := List.length_mergeSort _
      rw [hw, flat_ints, e]
      exact ownsRow_sortedI e hg hrow hnc hcm hcs
    · rw [hw]
      exact grownBy_sortedI _
theorem dedup_snoc : ∀ (l : List Pt) (had : List Int) (p : Pt), dedupE had (l ++ [p]) = if p.h ∈ dedupE had l then dedupE had l else dedupE had l ++ [p.h]
  | [], had, p => rfl
  | q :: l, had, p => by rw [List.cons_append, dedupE, dedupE, dedup_snoc l]
theorem dedup_ok {l : List Pt} (h : ∀ p ∈ l, I64 p.h) : ∀ x ∈ dedupE [] l, I64 x := fun x hx => by
  rcases dedup_mem.1 hx with h0 | ⟨p, hp, rfl⟩
  · simp at h0
  · exact h p hp
theorem dedup_ne {l : List Pt} (h : l ≠ []) : dedupE [] l ≠ [] := by
  intro e
  cases l with
  | nil => exact h rfl
  | cons p l =>
    have : p.h ∈ dedupE [] (p :: l) := dedup_mem.2 (.inr ⟨p, List.mem_cons_self, rfl⟩)
    rw [e] at this
    simp at this
set_option maxRecDepth 100000 in
set_option maxHeartbeats 1000000 in
theorem part_houses {v : Value} {l : List Pt} (w : World) (hv : Pts w.cell? v l) (hm : l.length * 24 ≤ 140737488355328) (hne : l ≠ []) (hp : ∀ p ∈ l, 0 ≤ p.h ∧ p.h < 3) :
    Calls Try.prog 81 #[v] w fun e w' => ∃ v', e = .returned v' ∧ w'.ownsRow w.heap.size 3 1 v' (housesE l).length ((housesE l).flatMap intCell) ∧ Grow w w' := by
  have hok := Pts.ok hv
  have HOK := Lib.hid (fun k => dedup_ok (l := l.take k) fun p hp => (hok p (List.mem_of_mem_take hp)).1)
  have HNE := Lib.hid (dedup_ne hne)
  have HSO := Lib.hid (houses_sort hp)
  have HM := Lib.hid hm
  obtain ⟨a, cap, rfl, h1, h2, -, hel⟩ := hv
  unfold maxLen at h2
  clear hok hp hne hm
  go_enter Try.func81, Try.ntmps81
  go_wp2
  go_loopw [3, 8] (fun v i wr => ∃ k : Nat, k ≤ l.length ∧ i = .int .i64 k ∧ Grow w wr ∧ wr.ownsRow w.heap.size 3 1 v (dedupE [] (l.take k)).length ((dedupE [] (l.take k)).flatMap intCell)) (fun _ i _ => l.length - (intOf i).toNat)
  case atStart => exact ⟨0, by omega, rfl, Grow.refl _, World.ownsRow_nil _ _ _ _⟩
  case round =>
    obtain ⟨k, hk', rfl, hb, hown⟩ := hrel
    obtain ⟨a1, c1, rfl⟩ := owns_form hown
    by_cases hlt : k < l.length
    · obtain ⟨b, o, rfl, c0, d1, d2, -, -, -⟩ := Pts.at_ hel k hlt
      replace c0 := hb.sub _ _ c0
      replace d1 := hb.sub _ _ d1
      replace d2 := hb.sub _ _ d2
      have hD : dedupE [] (l.take (k + 1)) = if l[k].h ∈ dedupE [] (l.take k) then dedupE [] (l.take k) else dedupE [] (l.take k) ++ [l[k].h] := by
        rw [List.take_succ_eq_append_getElem hlt, dedup_snoc]
      have HD := Lib.hid hD
      have hle : (dedupE [] (l.take k)).length ≤ k := by have := dedup_len (l.take k) []; simp at this; omega
      have HIN := Lib.hid (fun (W : World) (hW : Grow wr W) => contains_int (n := l[k].h) W ((Ints.of_own hown (HOK.out k)).mono hW.sub))
      have HOW := Lib.hid hown
      have HB := Lib.hid hb
      clear hel hown hD hb
      generalize dedupE [] (l.take k) = acc at *
      generalize l[k] = p at *
      obtain ⟨ph, pk, pn⟩ := p
      simp only at c0 d1 d2
      go_wp2_with fail
      refine (HIN.out _ ((Grow.refl wr).alloc _)).mono ?_
      by_cases hin : ph ∈ acc
      · rw [decide_eq_true hin]
        rintro e w3 ⟨rfl, hb3⟩
        have HB3 := Lib.hid ((HB.out.alloc _).trans hb3)
        have HO3 := Lib.hid (owns_grow HOW.out (((Grow.refl wr).alloc _).trans hb3))
        have HI := Lib.hid hin
        clear hb3 hin
        go_wp2
        go_roundw
        case rel => exact ⟨k + 1, by omega, by go_num, HB3.out, by rw [HD.out, if_pos HI.out]; exact HO3.out⟩
        case measure => simp [intOf]; omega
      · rw [decide_eq_false hin]
        rintro e w3 ⟨rfl, hb3⟩
        have R3 := Lib.hid (row_grow (row_new wr (.cells #[.int .i64 ph, .int .i64 pk, .int .i64 pn] 32)) hb3)
        have HB3 := Lib.hid ((HB.out.alloc (.cells #[.int .i64 ph, .int .i64 pk, .int .i64 pn] 32)).trans hb3)
        have HO3 := Lib.hid (owns_grow HOW.out (((Grow.refl wr).alloc _).trans hb3))
        have HI := Lib.hid hin
        clear hb3 hin
        obtain ⟨q0, q1, q2⟩ := cells3 R3.out
        have zq : wr.heap.size < w3.heap.size := (Array.getElem?_eq_some_iff.1 R3.out).1
        go_wp2_with (at_builtin; refine app1 ei_int rfl _ _ rfl HB3.out rfl HO3.out rfl (by simp) rfl (by simp [Value.oneCell']) (by have := HM.out; omega) (by decide) ?_; intro v' w' hown' hb' _)
        go_roundw
        case rel => exact ⟨k + 1, by omega, by go_num, hb', by rw [HD.out, if_neg HI.out]; simpa [intCell] using hown'⟩
        case measure => simp [intOf]; omega
    · have hk2 : k = l.length := by omega
      rw [List.take_of_length_le (by omega)] at hown
      have hln : (dedupE [] l).length ≤ l.length := by have := dedup_len l []; simp at this; omega
      obtain ⟨g, hg1, hg2, hc⟩ := own_sort hown HNE.out (by have := HM.out; omega)
      rw [HSO.out] at hc
      have HC := Lib.hid hc
      have HB := Lib.hid hb
      clear hel hc hown hb
      go_wp2_with fail
      refine HC.out.mono ?_
      rintro e w3 ⟨rfl, hown3, hg3⟩
      have HO3 := Lib.hid hown3
      have HG3 : Hid (Grow w w3) := Lib.hid (HB.out.grown hg3 fun k hk => by obtain rfl := Option.some.inj hk; exact hg2)
      clear hown3 hg3
      go_wp2
      go_ret
      exact ⟨_, rfl, HO3.out, HG3.out⟩
end Go.Proofs.Ytgbhpghgohggcaa

/- Walks: Wrong of the program's parts. -/
namespace Go.Proofs.Ytgbhpghgohggcaa
open Go.RowKit
def sameK (p q : Pt) : Bool := q.h == p.h && q.k == p.k
theorem wrong_lit {B : Nat} {p : Pt} (wx : World) (cs : List Value) (x : Pt) (hB : B < wx.heap.size) (c0 : wx.cell? ⟨B, 0, none⟩ = some (.int .i64 p.h)) (c1 : wx.cell? ⟨B, 1, none⟩ = some (.int .i64 p.k)) (hR : Ty.pt.R wx.cell? cs x) :
    Calls Try.prog 141 #[.agg cs.toArray, .pointer (some ⟨B, 0, none⟩)] wx fun e w' => e = .returned (.bool (sameK p x)) ∧ Grow wx w' := by
  obtain ⟨rfl, -⟩ := hR
  obtain ⟨ph, pk, pn⟩ := p
  obtain ⟨qh, qk, qn⟩ := x
  unfold Pt.cells sameK
  simp only at c0 c1 ⊢
  cases h1 : (qh == ph)
  · go_enter Try.func141, Try.ntmps141
    go_wp2
    go_ret
    exact ⟨rfl, (by repeat (first | with_reducible assumption | with_reducible exact Grow.refl _ | with_reducible apply Grow.drewN | with_reducible apply Grow.drew | with_reducible apply Grow.alloc | (refine Grow.setCell ?_ (by simp; done) _)))⟩
  · go_enter Try.func141, Try.ntmps141
    go_wp2
    go_ret
    exact ⟨ret_bool (by simp), (by repeat (first | with_reducible assumption | with_reducible exact Grow.refl _ | with_reducible apply Grow.drewN | with_reducible apply Grow.drew | with_reducible apply Grow.alloc | (refine Grow.setCell ?_ (by simp; done) _)))⟩
/-- pairs that were there -/
theorem any_same (l : List Pt) (p : Pt) : (l.any (sameK p)) = decide ((p.h, p.k) ∈ l.map fun q => (q.h, q.k)) := by
  rw [Bool.eq_iff_iff, List.any_eq_true, decide_eq_true_eq, List.mem_map]
  constructor
  · rintro ⟨q, hq, h⟩
    simp only [sameK, Bool.and_eq_true, beq_iff_eq] at h
    exact ⟨q, hq, by rw [h.1, h.2]⟩
  · rintro ⟨q, hq, h⟩
    simp only [Prod.mk.injEq] at h
    exact ⟨q, hq, by simp [sameK, h.1, h.2]⟩
theorem ways_pt2 (p : Pt) (h : Int) : (p.h < 0) ∨ (0 ≤ p.h ∧ h ≤ p.h) ∨ (0 ≤ p.h ∧ p.h < h ∧ p.k < 0) ∨ (0 ≤ p.h ∧ p.h < h ∧ 0 ≤ p.k ∧ 4 ≤ p.k) ∨ (0 ≤ p.h ∧ p.h < h ∧ 0 ≤ p.k ∧ p.k < 4 ∧ p.n < -1048576) ∨ (0 ≤ p.h ∧ p.h < h ∧ 0 ≤ p.k ∧ p.k < 4 ∧ -1048576 ≤ p.n ∧ 1048576 < p.n) ∨ (0 ≤ p.h ∧ p.h < h ∧ 0 ≤ p.k ∧ p.k < 4 ∧ -1048576 ≤ p.n ∧ p.n ≤ 1048576) := by omega
theorem Sl.take' {α : Type} {T : Ty α} {c : CM} {a : Option Addr} {n cap : Nat} {l : List α} (h : Sl T c (.slice a n cap) l) (m : Nat) (hm : m ≤ n) : Sl T c (.slice a m cap) (l.take m) := by
  obtain ⟨a', cap', he, h1, h2, h3, hel⟩ := h
  simp only [Value.slice.injEq] at he
  obtain ⟨rfl, rfl, rfl⟩ := he
  have hl : (l.take m).length = m := by simp; omega
  refine ⟨a, cap, by rw [hl], by rw [hl]; omega, h2, h3, fun i x e => ?_⟩
  have hi := (List.getElem?_eq_some_iff.1 e).1
  rw [List.getElem?_take_of_lt (by omega)] at e
  exact hel i x e
set_option maxRecDepth 100000 in
set_option maxHeartbeats 2000000 in
theorem part_wrong {v : Value} {l : List Pt} {h : Int} (w : World) (hv : Pts w.cell? v l) :
    Calls Try.prog 78 #[v, .int .i64 h] w fun e w' => e = .returned (.int .i64 (wrongE l h)) ∧ Grow w w' := by
  have HV := Lib.hid hv
  obtain ⟨a, cap, rfl, h1, h2, -, hel⟩ := hv
  unfold maxLen at h2
  by_cases hl0 : l.length = 0
  · have hE : wrongE l h = 5 := by simp [wrongE, hl0]
    have HE := Lib.hid hE
    have hl1 : l.length < 1 := by omega
    clear hel hE hl0
    go_enter Try.func78, Try.ntmps78
    go_wp2
    go_ret
    exact ⟨ret_int HE.out.symm, Grow.refl _⟩
  by_cases hl4 : 4 < l.length
  · have hE : wrongE l h = 5 := by rw [wrongE, if_pos (.inr hl4)]
    have HE := Lib.hid hE
    have hl1 : ¬ l.length < 1 := by omega
    clear hel hE hl0
    go_enter Try.func78, Try.ntmps78
    go_wp2
    go_ret
    exact ⟨ret_int HE.out.symm, Grow.refl _⟩
  have hE : wrongE l h = wrongGo h [] l := by rw [wrongE, if_neg (by omega)]
  have HE := Lib.hid hE
  have hl1 : ¬ l.length < 1 := by omega
  clear hE hl0
  go_enter Try.func78, Try.ntmps78
  go_wp2
  go_loopw [4, 5, 17] (fun _ _ i wr => ∃ (k : Nat), k ≤ l.length ∧ i = .int .i64 k ∧ Grow w wr ∧ wrongE l h = wrongGo h ((l.take k).map fun q => (q.h, q.k)) (l.drop k)) (fun _ _ i _ => l.length - (intOf i).toNat)
  case atStart => exact ⟨0, by omega, rfl, (by repeat (first | with_reducible assumption | with_reducible exact Grow.refl _ | with_reducible apply Grow.drewN | with_reducible apply Grow.drew | with_reducible apply Grow.alloc | (refine Grow.setCell ?_ (by simp; done) _))), HE.out⟩
  case round =>
    obtain ⟨k, hk', rfl, hb, hE⟩ := hrel
    by_cases hlt : k < l.length
    · obtain ⟨b, o, rfl, c0, c1, c2, i0, i1, i2⟩ := Pts.at_ hel k hlt
      replace c0 := hb.sub _ _ c0
      replace c1 := hb.sub _ _ c1
      replace c2 := hb.sub _ _ c2
      rw [List.drop_eq_getElem_cons hlt, wrongGo] at hE
      have hw := ways_pt2 l[k] h
      have hbad : ∀ b, decide (l[k].h < 0 ∨ h ≤ l[k].h ∨ l[k].k < 0 ∨ 3 < l[k].k ∨ 1048576 < l[k].n ∨ l[k].n < -1048576) = b → badPt l[k] h = b := fun b hb => hb
      have HB := Lib.hid hbad
      have HE2 := Lib.hid hE
      have HNX := Lib.hid (show wrongGo h ((l[k].h, l[k].k) :: (l.take k).map fun q => (q.h, q.k)) (l.drop (k + 1)) = wrongGo h ((l.take (k + 1)).map fun q => (q.h, q.k)) (l.drop (k + 1)) from wrongGo_congr h _ _ _ fun x => by
        rw [List.take_succ_eq_append_getElem hlt, List.map_append, List.mem_append, List.mem_cons, or_comm]; simp)
      have HSL := Lib.hid (HV.out.take' k hk')
      have HAN := Lib.hid (any_same (l.take k) l[k])
      clear hel hE hbad HE HV i0 i1 i2
      generalize l[k] = p at *
      obtain ⟨ph, pk, pn⟩ := p
      simp only at hw c0 c1 c2
      rcases hw with hw | ⟨w1, hw⟩ | ⟨w1, w2, hw⟩ | ⟨w1, w2, w3, hw⟩ | ⟨w1, w2, w3, w4, hw⟩ | ⟨w1, w2, w3, w4, w5, hw⟩ | ⟨w1, w2, w3, w4, w5, hw⟩
      iterate 6 (· go_wp2
                   go_ret
                   exact ⟨ret_int (by rw [HE2.out, if_pos (HB.out true (by simp only [decide_eq_true_eq]; omega))]), (by repeat (first | with_reducible assumption | with_reducible exact Grow.refl _ | with_reducible apply Grow.drewN | with_reducible apply Grow.drew | with_reducible apply Grow.alloc | (refine Grow.setCell ?_ (by simp; done) _)))⟩)
      have hnb := HB.out false (by simp only [decide_eq_false_iff_not]; omega)
      have hE3 := HE2.out
      rw [if_neg (by rw [hnb]; exact Bool.false_ne_true)] at hE3
      have HE3 := Lib.hid hE3
      clear hE3 hnb HB HE2
      have HCF := Lib.hid (containsFunc_pt (l := l.take k) (F := 141) (caps := #[.pointer (some ⟨wr.heap.size, 0, none⟩)]) (p := sameK ⟨ph, pk, pn⟩) (wr.alloc (.cells #[.int .i64 ph, .int .i64 pk, .int .i64 pn] 32)) (HSL.out.mono (hb.alloc _).sub) ⟨fun args w => by kernel_rfl, fun wx cs x hg _ hR => wrong_lit wx cs x (Nat.lt_of_lt_of_le (by simp) hg.size) (hg.sub _ _ (by rw [World.cell?_alloc_new]; rfl)) (hg.sub _ _ (by rw [World.cell?_alloc_new]; rfl)) hR⟩)
      rw [HAN.out] at HCF
      simp only at HCF
      by_cases hin : (ph, pk) ∈ (l.take k).map fun q => (q.h, q.k)
      · rw [decide_eq_true hin] at HCF
        have HI := Lib.hid hin
        clear hin HAN HSL
        go_wp2_with fail
        refine HCF.out.mono ?_
        rintro e w3 ⟨rfl, hb3⟩
        have HB3 := Lib.hid ((hb.alloc _).trans hb3)
        clear hb3
        go_wp2
        go_ret
        exact ⟨ret_int (by rw [HE3.out, if_pos HI.out]), HB3.out⟩
      · rw [decide_eq_false hin] at HCF
        have HI := Lib.hid hin
        clear hin HAN HSL
        go_wp2_with fail
        refine HCF.out.mono ?_
        rintro e w3 ⟨rfl, hb3⟩
        have HB3 := Lib.hid ((hb.alloc _).trans hb3)
        clear hb3
        go_wp2
        go_roundw
        case rel => exact ⟨k + 1, by omega, by go_num, HB3.out, by rw [HE3.out, if_neg HI.out]; exact HNX.out⟩
        case measure => simp [intOf]; omega
    · go_wp2
      go_ret
      refine ⟨ret_int ?_, hb⟩
      rw [hE, List.drop_of_length_le (by omega)]
      rfl
end Go.Proofs.Ytgbhpghgohggcaa

/- Walks: SameLog of the document's answer; four sums compared. -/
namespace Go.Proofs.Ytgbhpghgohggcaa
open Go.RowKit
set_option maxRecDepth 100000 in
set_option maxHeartbeats 4000000 in
theorem ref_sameLog {v v' : Value} {l l' : List Rc} (w : World) (hv : Sl Ty.rc w.cell? v l) (hv' : Sl Ty.rc w.cell? v' l') :
    Calls Try.prog 39 #[v, v'] w fun e w' => e = .returned (.bool (decide (l = l'))) ∧ Grow w w' := by
  obtain ⟨a, cap, rfl, h1, h2, -, hel⟩ := hv
  obtain ⟨a', cap', rfl, h1', h2', -, hel'⟩ := hv'
  unfold maxLen at h2 h2'
  by_cases hlen : l.length = l'.length
  · have hb : ((l.length : Int) != l'.length) = false := by simp [hlen]
    have HL := Lib.hid hlen
    clear hlen
    go_enter Try.func39, Try.ntmps39
    go_wp2
    go_loopw [4, 5, 13] (fun _ _ i wr => ∃ k : Nat, k ≤ l.length ∧ i = .int .i64 k ∧ Grow w wr ∧ ∀ j, j < k → l[j]? = l'[j]?) (fun _ _ i _ => l.length - (intOf i).toNat)
    case atStart => exact ⟨0, by omega, rfl, (by repeat (first | with_reducible assumption | with_reducible exact Grow.refl _ | with_reducible apply Grow.drewN | with_reducible apply Grow.drew | with_reducible apply Grow.alloc | (refine Grow.setCell ?_ (by simp; done) _))), fun j h => by omega⟩
    case round =>
      obtain ⟨k, hk', rfl, hb, hE⟩ := hrel
      by_cases hlt : k < l.length
      · have hlt' : k < l'.length := by have := HL.out; omega
        have H1 := Lib.hid (same_next hlt hlt' hE)
        have H2 : Hid (¬ l[k] = l'[k] → decide (l = l') = false) := fun h => same_not hlt hlt' h
        clear hE
        obtain ⟨b, o, vp, rfl, c0, c1, c2, -, -, hp⟩ := Rcs.at_ hel k hlt
        obtain ⟨b', o', vp', rfl, c0', c1', c2', -, -, hp'⟩ := Rcs.at_ hel' k hlt'
        obtain ⟨ap, cp, rfl, -⟩ := id hp
        obtain ⟨ap', cp', rfl, -⟩ := id hp'
        have HSP := Lib.hid (fun (W : World) (hW : Grow wr W) => ref_sameParts W (hp.mono (hb.trans hW).sub) (hp'.mono (hb.trans hW).sub))
        replace c0 := hb.sub _ _ c0
        replace c0' := hb.sub _ _ c0'
        replace c1 := hb.sub _ _ c1
        replace c1' := hb.sub _ _ c1'
        replace c2 := hb.sub _ _ c2
        replace c2' := hb.sub _ _ c2'
        clear hel hel' hp hp'
        generalize l[k] = p at *
        generalize l'[k] = p' at *
        have HS : Hid (∀ W, Grow wr W → W.cell? ⟨b, o + k * 3, none⟩ = some (.int .i64 p.kind) ∧ W.cell? ⟨b, o + k * 3 + 1, none⟩ = some (.int .i64 p.deed) ∧ W.cell? ⟨b, o + k * 3 + 2, none⟩ = some (.slice ap p.parts.length cp) ∧ W.cell? ⟨b', o' + k * 3, none⟩ = some (.int .i64 p'.kind) ∧ W.cell? ⟨b', o' + k * 3 + 1, none⟩ = some (.int .i64 p'.deed) ∧ W.cell? ⟨b', o' + k * 3 + 2, none⟩ = some (.slice ap' p'.parts.length cp')) := fun W hW => ⟨hW.sub _ _ c0, hW.sub _ _ c1, hW.sub _ _ c2, hW.sub _ _ c0', hW.sub _ _ c1', hW.sub _ _ c2'⟩
        by_cases hk : p.kind = p'.kind
        · have hnk : (p.kind != p'.kind) = false := by simp [hk]
          by_cases hd : p.deed = p'.deed
          · have hne : (p.deed != p'.deed) = false := by simp [hd]
            by_cases hpp : p.parts = p'.parts
            · have hpe : p = p' := by cases p; cases p'; simp_all
              have H3 := Lib.hid (H1.out hpe)
              have hdec := decide_eq_true hpp
              rw [hdec] at HSP
              clear hk hd hpp hpe H1 H2 hdec
              go_wp2
              go_region_held3 (fun w' => w'.cell? ⟨b, o + k * 3, none⟩ = some (.int .i64 p.kind) ∧ w'.cell? ⟨b, o + k * 3 + 1, none⟩ = some (.int .i64 p.deed) ∧ w'.cell? ⟨b, o + k * 3 + 2, none⟩ = some (.slice ap p.parts.length cp) ∧ w'.cell? ⟨b', o' + k * 3, none⟩ = some (.int .i64 p'.kind) ∧ w'.cell? ⟨b', o' + k * 3 + 1, none⟩ = some (.int .i64 p'.deed) ∧ w'.cell? ⟨b', o' + k * 3 + 2, none⟩ = some (.slice ap' p'.parts.length cp')) (first | assumption | exact HS.out _ (by repeat (first | with_reducible assumption | with_reducible exact Grow.refl _ | with_reducible apply Grow.drewN | with_reducible apply Grow.drew | with_reducible apply Grow.alloc | (refine Grow.trans ?_ (by with_reducible assumption))))) (first | (go_at_call 84; refine (HSP.out _ (by repeat (first | with_reducible assumption | with_reducible exact Grow.refl _ | with_reducible apply Grow.drewN | with_reducible apply Grow.drew | with_reducible apply Grow.alloc | (refine Grow.trans ?_ (by with_reducible assumption))))).mono ?_; rintro e w4 ⟨rfl, hb4⟩))
              go_wp2
              go_roundw
              case rel => exact ⟨k + 1, by omega, by go_num, hb.trans (by repeat (first | with_reducible assumption | with_reducible exact Grow.refl _ | with_reducible apply Grow.drewN | with_reducible apply Grow.drew | with_reducible apply Grow.alloc | (refine Grow.trans ?_ (by with_reducible assumption)))), H3.out⟩
              case measure => simp [intOf]; omega
            · have H3 := Lib.hid (H2.out (fun e => hpp (by rw [e])))
              have hdec := decide_eq_false hpp
              rw [hdec] at HSP
              clear hk hd hpp H1 H2 hdec
              go_wp2
              go_region_held3 (fun w' => w'.cell? ⟨b, o + k * 3, none⟩ = some (.int .i64 p.kind) ∧ w'.cell? ⟨b, o + k * 3 + 1, none⟩ = some (.int .i64 p.deed) ∧ w'.cell? ⟨b, o + k * 3 + 2, none⟩ = some (.slice ap p.parts.length cp) ∧ w'.cell? ⟨b', o' + k * 3, none⟩ = some (.int .i64 p'.kind) ∧ w'.cell? ⟨b', o' + k * 3 + 1, none⟩ = some (.int .i64 p'.deed) ∧ w'.cell? ⟨b', o' + k * 3 + 2, none⟩ = some (.slice ap' p'.parts.length cp')) (first | assumption | exact HS.out _ (by repeat (first | with_reducible assumption | with_reducible exact Grow.refl _ | with_reducible apply Grow.drewN | with_reducible apply Grow.drew | with_reducible apply Grow.alloc | (refine Grow.trans ?_ (by with_reducible assumption))))) (first | (go_at_call 84; refine (HSP.out _ (by repeat (first | with_reducible assumption | with_reducible exact Grow.refl _ | with_reducible apply Grow.drewN | with_reducible apply Grow.drew | with_reducible apply Grow.alloc | (refine Grow.trans ?_ (by with_reducible assumption))))).mono ?_; rintro e w4 ⟨rfl, hb4⟩))
              go_wp2
              go_ret
              exact ⟨ret_bool H3.out.symm, hb.trans (by repeat (first | with_reducible assumption | with_reducible exact Grow.refl _ | with_reducible apply Grow.drewN | with_reducible apply Grow.drew | with_reducible apply Grow.alloc | (refine Grow.trans ?_ (by with_reducible assumption))))⟩
          · have H3 := Lib.hid (H2.out (fun e => hd (by rw [e])))
            have hne : (p.deed != p'.deed) = true := by simp [hd]
            clear hk hd H1 H2
            go_wp2_with (go_quiet (fail))
            go_ret
            exact ⟨ret_bool H3.out.symm, (by repeat (first | with_reducible assumption | with_reducible exact Grow.refl _ | with_reducible apply Grow.drewN | with_reducible apply Grow.drew | with_reducible apply Grow.alloc | (refine Grow.setCell ?_ (by simp; done) _)))⟩
        · have H3 := Lib.hid (H2.out (fun e => hk (by rw [e])))
          have hnk : (p.kind != p'.kind) = true := by simp [hk]
          clear hk H1 H2
          go_wp2_with (go_quiet (fail))
          go_ret
          exact ⟨ret_bool H3.out.symm, (by repeat (first | with_reducible assumption | with_reducible exact Grow.refl _ | with_reducible apply Grow.drewN | with_reducible apply Grow.drew | with_reducible apply Grow.alloc | (refine Grow.setCell ?_ (by simp; done) _)))⟩
      · have HE := Lib.hid hE
        clear hel hel' hE
        go_wp2
        go_ret
        refine ⟨ret_bool ?_, hb⟩
        rw [eq_comm, decide_eq_true_eq]
        exact same_all HL.out (by omega) HE.out
  · have hb : ((l.length : Int) != l'.length) = true := by simp; omega
    have HE : Hid (decide (l = l') = false) := by show _ = _; rw [decide_eq_false_iff_not]; rintro rfl; exact hlen rfl
    clear hlen hel hel'
    go_enter Try.func39, Try.ntmps39
    go_wp2
    go_ret
    exact ⟨ret_bool HE.out.symm, (by repeat (first | with_reducible assumption | with_reducible exact Grow.refl _ | with_reducible apply Grow.drewN | with_reducible apply Grow.drew | with_reducible apply Grow.alloc | (refine Grow.setCell ?_ (by simp; done) _)))⟩
theorem eql_sm (s t : Sm) (w : World) : (binOp .eql 25 (.agg #[.int .i64 s.a, .int .i64 s.b, .int .i64 s.c, .int .i64 s.d]) (.agg #[.int .i64 t.a, .int .i64 t.b, .int .i64 t.c, .int .i64 t.d])).run Try.prog w = .ok (.bool (decide (s = t))) w := by
  have u3 := Try.underlying3
  have a3 := Try.isAgg3
  have z3 := Try.sizeOf3
  obtain ⟨i, z, hi, _⟩ := ei_int.hi
  have hc : Try.prog.cellsOf 3 = 1 := by kernel_rfl
  rw [run_eql_struct, show (10000 : Nat) = 9999 + 1 from rfl, run_equalIn_array w 9999 _ _ Try.underlying25 hi, hc, show List.range 4 = [0, 1, 2, 3] from rfl]
  clear hi
  simp only [Op.eqItems]
  obtain ⟨a, b, c, d⟩ := s
  obtain ⟨a', b', c', d'⟩ := t
  go_simp
  by_cases h1 : a = a' <;> by_cases h2 : b = b' <;> by_cases h3 : c = c' <;> by_cases h4 : d = d' <;> simp [h1, h2, h3, h4]
theorem guard_sm : Try.prog.eqGuardType Try.prog.depth 25 = false := by kernel_rfl
end Go.Proofs.Ytgbhpghgohggcaa

/- The law PartTells, walked. -/
namespace Go.Proofs.Ytgbhpghgohggcaa
open Go.RowKit
theorem houses_i64 (l : List Pt) : ∀ x ∈ housesE l, I64 x := fun x hx => by
  have := (mem_houses.1 hx).1
  rcases this with rfl | rfl | rfl <;> (unfold I64; decide)
theorem Of.sm_form {c : CM} {v : Value} {s : Sm} (h : Of Ty.sm c v s) : v = .agg #[.int .i64 s.a, .int .i64 s.b, .int .i64 s.c, .int .i64 s.d] := by
  obtain ⟨cs, rfl, rfl, -⟩ := h
  rfl
set_option maxRecDepth 100000 in
set_option maxHeartbeats 8000000 in
theorem partTells_walk {v vs : Value} {l : List Pt} {h n : Int} {s : Sm} (w : World) (hv : Pts w.cell? v l) (hs : l.length * 24 ≤ 140737488351232) (_hh : I64 h) (_hn : I64 n) (hsm : Of Ty.sm w.cell? vs s) :
    Calls Try.prog 18 #[v, .int .i64 h, .int .i64 n, vs] w fun e w' => e = .returned (.bool true) ∧ Grow w w' := by
  obtain rfl := hsm.sm_form
  have HW1 := Lib.hid (fun (W : World) (hW : Grow w W) => part_wrong (h := h) W (hv.mono hW.sub))
  have HW2 := Lib.hid (fun (W : World) (hW : Grow w W) => ref_wrongParts (h := h) W (hv.mono hW.sub))
  have HW3 := Lib.hid (fun (W : World) (hW : Grow w W) => ref_wrongParts (h := 3) W (hv.mono hW.sub))
  have HV := Lib.hid hv
  have hok := Pts.ok hv
  obtain ⟨a, cap, rfl, -⟩ := hv
  clear hsm
  generalize wrongE l h = we at *
  have hne : (we != we) = false := by simp
  by_cases hw : wrongE l 3 = 0
  · have hb3 : (wrongE l 3 != 0) = false := by simp [hw]
    cases hr : rightS s with
    | false =>
      have HR := Lib.hid hr
      clear hr hw hok
      generalize wrongE l 3 = w3e at *
      go_enter Try.func18, Try.ntmps18
      go_wp2_with fail
      refine (HW1.out _ ((Grow.refl w).alloc _)).mono ?_
      rintro e w1 ⟨rfl, hb⟩
      have R7_w1 := Lib.hid (row_grow (row_new w (.cells #[.int .i64 s.a, .int .i64 s.b, .int .i64 s.c, .int .i64 s.d] 25)) hb)
      have G_w1 := Lib.hid (((Grow.refl w).alloc (.cells #[.int .i64 s.a, .int .i64 s.b, .int .i64 s.c, .int .i64 s.d] 25)).trans hb)
      clear hb
      obtain ⟨c0, c1, c2, c3⟩ := cells4 R7_w1.out
      have z7 : w.heap.size < w1.heap.size := (Array.getElem?_eq_some_iff.1 R7_w1.out).1
      go_wp2_with fail
      refine (HW2.out _ G_w1.out).mono ?_
      rintro e w2 ⟨rfl, hb⟩
      have R7_w2 := Lib.hid (row_grow R7_w1.out hb)
      have G_w2 := Lib.hid (G_w1.out.trans hb)
      clear hb c0 c1 c2 c3 z7
      obtain ⟨c0, c1, c2, c3⟩ := cells4 R7_w2.out
      have z7 : w.heap.size < w2.heap.size := (Array.getElem?_eq_some_iff.1 R7_w2.out).1
      go_wp2_with fail
      refine (HW3.out _ G_w2.out).mono ?_
      rintro e w3 ⟨rfl, hb⟩
      have R7_w3 := Lib.hid (row_grow R7_w2.out hb)
      have G_w3 := Lib.hid (G_w2.out.trans hb)
      clear hb c0 c1 c2 c3 z7
      obtain ⟨c0, c1, c2, c3⟩ := cells4 R7_w3.out
      have z7 : w.heap.size < w3.heap.size := (Array.getElem?_eq_some_iff.1 R7_w3.out).1
      go_wp2_with fail
      refine (ref_rightSums _ s).mono ?_
      rw [HR.out]
      rintro e w4 ⟨rfl, hb⟩
      have R7_w4 := Lib.hid (row_grow R7_w3.out hb)
      have G_w4 := Lib.hid (G_w3.out.trans hb)
      clear hb c0 c1 c2 c3 z7
      obtain ⟨c0, c1, c2, c3⟩ := cells4 R7_w4.out
      have z7 : w.heap.size < w4.heap.size := (Array.getElem?_eq_some_iff.1 R7_w4.out).1
      go_wp2
      go_ret
      exact ⟨rfl, G_w4.out⟩
    | true =>
      have HR := Lib.hid hr
      have h0 := wrong_ok hw
      have hlen : l ≠ [] := by intro e; rw [e] at h0; simp at h0
      have HH1 := Lib.hid (fun (W : World) (hW : Grow w W) => part_houses W (HV.out.mono hW.sub) (by omega) hlen (fun p hp => by have := h0.2.2.1 p hp; omega))
      have HH2 := Lib.hid (fun (W : World) (hW : Grow w W) => ref_houses W (HV.out.mono hW.sub) (by omega))
      have HOF := Lib.hid (fun (W : World) (hW : Grow w W) => ref_of (n := n) W (HV.out.mono hW.sub) (by omega))
      have HPO := Lib.hid (fun (W : World) (hW : Grow w W) => part_of (n := n) W (HV.out.mono hW.sub) (by omega))
      have HOK : Hid (PtsOk (ofL l n)) := fun p hp => hok p ((List.mem_filter.1 hp).1)
      have HKO : Hid (KeysOk (ofL l n)) := ofL_ok hw n
      clear hr hw h0 hlen hok hs
      generalize wrongE l 3 = w3e at *
      go_enter Try.func18, Try.ntmps18
      go_wp2_with fail
      refine (HW1.out _ ((Grow.refl w).alloc _)).mono ?_
      rintro e w1 ⟨rfl, hb⟩
      have R7_w1 := Lib.hid (row_grow (row_new w (.cells #[.int .i64 s.a, .int .i64 s.b, .int .i64 s.c, .int .i64 s.d] 25)) hb)
      have G_w1 := Lib.hid (((Grow.refl w).alloc (.cells #[.int .i64 s.a, .int .i64 s.b, .int .i64 s.c, .int .i64 s.d] 25)).trans hb)
      clear hb
      obtain ⟨c0, c1, c2, c3⟩ := cells4 R7_w1.out
      have z7 : w.heap.size < w1.heap.size := (Array.getElem?_eq_some_iff.1 R7_w1.out).1
      go_wp2_with fail
      refine (HW2.out _ G_w1.out).mono ?_
      rintro e w2 ⟨rfl, hb⟩
      have R7_w2 := Lib.hid (row_grow R7_w1.out hb)
      have G_w2 := Lib.hid (G_w1.out.trans hb)
      clear hb c0 c1 c2 c3 z7
      obtain ⟨c0, c1, c2, c3⟩ := cells4 R7_w2.out
      have z7 : w.heap.size < w2.heap.size := (Array.getElem?_eq_some_iff.1 R7_w2.out).1
      go_wp2_with fail
      refine (HW3.out _ G_w2.out).mono ?_
      rintro e w3 ⟨rfl, hb⟩
      have R7_w3 := Lib.hid (row_grow R7_w2.out hb)
      have G_w3 := Lib.hid (G_w2.out.trans hb)
      clear hb c0 c1 c2 c3 z7
      obtain ⟨c0, c1, c2, c3⟩ := cells4 R7_w3.out
      have z7 : w.heap.size < w3.heap.size := (Array.getElem?_eq_some_iff.1 R7_w3.out).1
      go_wp2_with fail
      refine (ref_rightSums _ s).mono ?_
      rw [HR.out]
      rintro e w4 ⟨rfl, hb⟩
      have R7_w4 := Lib.hid (row_grow R7_w3.out hb)
      have G_w4 := Lib.hid (G_w3.out.trans hb)
      clear hb c0 c1 c2 c3 z7
      obtain ⟨c0, c1, c2, c3⟩ := cells4 R7_w4.out
      have z7 : w.heap.size < w4.heap.size := (Array.getElem?_eq_some_iff.1 R7_w4.out).1
      go_wp2_with fail
      refine (HH1.out _ G_w4.out).mono ?_
      rintro e w5 ⟨v1, rfl, ho1, hb⟩
      obtain ⟨a1, k1, rfl⟩ := owns_form ho1
      have HO1 := Lib.hid (Ints.of_own ho1 (houses_i64 l))
      have R7_w5 := Lib.hid (row_grow R7_w4.out hb)
      have G_w5 := Lib.hid (G_w4.out.trans hb)
      clear hb ho1 c0 c1 c2 c3 z7
      obtain ⟨c0, c1, c2, c3⟩ := cells4 R7_w5.out
      have z7 : w.heap.size < w5.heap.size := (Array.getElem?_eq_some_iff.1 R7_w5.out).1
      go_wp2_with fail
      refine (HH2.out _ G_w5.out).mono ?_
      rintro e w6 ⟨v2, rfl, ho2, hb⟩
      obtain ⟨a2, k2, rfl⟩ := owns_form ho2
      have HO2 := Lib.hid (Ints.of_own ho2 (houses_i64 l))
      have HO1b := Lib.hid (HO1.out.mono hb.sub)
      have R7_w6 := Lib.hid (row_grow R7_w5.out hb)
      have G_w6 := Lib.hid (G_w5.out.trans hb)
      clear hb ho2 c0 c1 c2 c3 z7
      obtain ⟨a1', k1', h1e, p1, p2, -, hel1⟩ := HO1b.out
      obtain ⟨rfl, rfl⟩ : a1 = a1' ∧ k1 = k1' := by simpa using h1e
      obtain ⟨a2', k2', h2e, p3, p4, -, hel2⟩ := HO2.out
      obtain ⟨rfl, rfl⟩ : a2 = a2' ∧ k2 = k2' := by simpa using h2e
      unfold maxLen at p2 p4
      clear h1e h2e
      have hll : ((housesE l).length != (housesE l).length) = false := by simp
      have hll2 : (((housesE l).length : Int) != ((housesE l).length : Int)) = false := by simp
      generalize housesE l = hs at *
      go_wp2
      go_loopw [8, 11, 39] (fun _ _ i wr => ∃ k : Nat, k ≤ hs.length ∧ i = .int .i64 k ∧ Grow w6 wr) (fun _ _ i _ => hs.length - (intOf i).toNat)
      case atStart => exact ⟨0, by omega, rfl, Grow.refl _⟩
      case round =>
        obtain ⟨k, hk', rfl, hb⟩ := hrel
        by_cases hlt : k < hs.length
        · obtain ⟨b, o, rfl, e1, -⟩ := intAt hel1 k hlt
          obtain ⟨b', o', rfl, e2, -⟩ := intAt hel2 k hlt
          replace e1 := hb.sub _ _ e1
          replace e2 := hb.sub _ _ e2
          clear hel1 hel2
          generalize hs[k] = q at *
          have hq : (q != q) = false := by simp
          go_wp2_with (go_quiet (fail))
          go_roundw
          case rel => exact ⟨k + 1, by omega, by go_num, (by repeat (first | with_reducible assumption | with_reducible exact Grow.refl _ | with_reducible apply Grow.drewN | with_reducible apply Grow.drew | with_reducible apply Grow.alloc | (refine Grow.setCell ?_ (by simp; done) _)))⟩
          case measure => simp [intOf]; omega
        · clear hel1 hel2
          have GG := Lib.hid (G_w6.out.trans hb)
          have R7_wr := Lib.hid (row_grow R7_w6.out hb)
          go_wp2_with fail
          refine (HOF.out _ GG.out).mono ?_
          rintro e w7 ⟨v7, rfl, ho7, hb7⟩
          obtain ⟨a7, k7, rfl⟩ := owns_form ho7
          have HP7 := Lib.hid (Pts.of_own ho7 HOK.out)
          have R7_w7 := Lib.hid (row_grow R7_wr.out hb7)
          have G_w7 := Lib.hid (GG.out.trans hb7)
          clear ho7 hb7
          have HS : Hid (∀ W, Grow w7 W → W.cell? ⟨w.heap.size, 0, none⟩ = some (.int .i64 s.a) ∧ W.cell? ⟨w.heap.size, 1, none⟩ = some (.int .i64 s.b) ∧ W.cell? ⟨w.heap.size, 2, none⟩ = some (.int .i64 s.c) ∧ W.cell? ⟨w.heap.size, 3, none⟩ = some (.int .i64 s.d)) := fun W hW => cells4 (row_grow R7_w7.out hW)
          have HPO' := Lib.hid (fun (W : World) (hW : Grow w7 W) => HPO.out W (G_w7.out.trans hW))
          have HPF := Lib.hid (fun (W : World) (hW : Grow w7 W) => part_fits (s0 := s.a) (s1 := s.b) (s2 := s.c) (s3 := s.d) W (HP7.out.mono hW.sub) HKO.out)
          have HRF := Lib.hid (fun (W : World) (hW : Grow w7 W) => ref_fits (s0 := s.a) (s1 := s.b) (s2 := s.c) (s3 := s.d) W (HP7.out.mono hW.sub) HKO.out)
          have HPD := Lib.hid (fun (W : World) (hW : Grow w7 W) => part_do (s := s) W (HP7.out.mono hW.sub) HKO.out)
          have HRD := Lib.hid (fun (W : World) (hW : Grow w7 W) => ref_do (s := s) W (HP7.out.mono hW.sub) HKO.out)
          generalize fitsE (S4 s.a s.b s.c s.d) (ofL l n) = fe at *
          generalize doP s (ofL l n) = t at *
          have hfe : (fe == fe) = true := by simp
          have HQ : ∀ u : World, (binOp .eql 25 (.agg #[.int .i64 t.a, .int .i64 t.b, .int .i64 t.c, .int .i64 t.d]) (.agg #[.int .i64 t.a, .int .i64 t.b, .int .i64 t.c, .int .i64 t.d])).run Try.prog u = .ok (.bool true) u := fun u => by rw [eql_sm, decide_eq_true rfl]
          have hg := guard_sm
          go_wp2
          refine but_start (fun w' => w'.cell? ⟨w.heap.size, 0, none⟩ = some (.int .i64 s.a) ∧ w'.cell? ⟨w.heap.size, 1, none⟩ = some (.int .i64 s.b) ∧ w'.cell? ⟨w.heap.size, 2, none⟩ = some (.int .i64 s.c) ∧ w'.cell? ⟨w.heap.size, 3, none⟩ = some (.int .i64 s.d)) 23 (by kernel_rfl) ?_
          obtain ⟨wd, hWd⟩ : ∃ x : World, x = w7.drew := ⟨_, rfl⟩
          rw [← hWd]
          have GD : Grow w7 wd := by rw [hWd]; exact (Grow.refl _).drew
          have zD : w7.heap.size = wd.heap.size := by rw [hWd]; rfl
          have ZD := Lib.hid zD
          clear hWd zD
          refine but_take (i := 0) (v := ?_) 26 rfl (by kernel_rfl) (by kernel_rfl) (by kernel_rfl) (by kernel_rfl) (by kernel_rfl) (fun _ _ _ h => h) (HS.out _ GD) (Or.inl ⟨by rfl, ?_⟩) ?_
          rotate_left
          · (intro w' hSw; (try dsimp only at hSw); obtain ⟨hs0, hs1, hs2, hs3⟩ := hSw; go_simp <;> with_reducible rfl)
          try simp only [Act.put, List.getElem_toArray, List.getElem_cons_zero, List.setIfInBounds_toArray, List.set_cons_zero, List.set_cons_succ]
          refine but_take (i := 1) (v := ?_) 26 rfl (by kernel_rfl) (by kernel_rfl) (by kernel_rfl) (by kernel_rfl) (by kernel_rfl) (fun _ _ _ h => h) (HS.out _ GD) (Or.inl ⟨by rfl, ?_⟩) ?_
          rotate_left
          · (intro w' hSw; (try dsimp only at hSw); obtain ⟨hs0, hs1, hs2, hs3⟩ := hSw; go_simp <;> with_reducible rfl)
          try simp only [Act.put, List.getElem_toArray, List.getElem_cons_succ, List.getElem_cons_zero, List.setIfInBounds_toArray, List.set_cons_zero, List.set_cons_succ]
          refine but_take (i := 3) (v := ?_) 26 rfl (by kernel_rfl) (by kernel_rfl) (by kernel_rfl) (by kernel_rfl) (by kernel_rfl) (fun _ _ _ h => h) (HS.out _ GD) (Or.inl ⟨by rfl, ?_⟩) ?_
          rotate_left
          · (intro w' hSw; (try dsimp only at hSw); obtain ⟨hs0, hs1, hs2, hs3⟩ := hSw; go_simp <;> with_reducible rfl)
          try simp only [Act.put, List.getElem_toArray, List.getElem_cons_succ, List.getElem_cons_zero, List.setIfInBounds_toArray, List.set_cons_zero, List.set_cons_succ]
          refine but_one (i := 2) (by kernel_rfl) rfl ?_
          intro K HK'
          have HK := Lib.hid HK'
          clear HK'
          skip
          try simp only [List.getElem_toArray, List.getElem_cons_succ, List.getElem_cons_zero]
          go_simp
          go_at_call 85
          refine (HPO'.out _ GD).mono ?_
          rintro e wa ⟨va, rfl, ha, hbwa⟩
          have Gwa := Grow.trans GD hbwa
          obtain ⟨aa, ka, rfl⟩ := ha.form
          have HPA := Lib.hid ha
          clear ha
          refine HK.out _ _ ⟨fun _ => HS.out _ Gwa, ?_⟩
          clear HK K
          try simp only [Act.put, List.getElem_toArray, List.getElem_cons_succ, List.getElem_cons_zero, List.setIfInBounds_toArray, List.set_cons_zero, List.set_cons_succ]
          refine but_one (i := 4) (by kernel_rfl) rfl ?_
          intro K HK'
          have HK := Lib.hid HK'
          clear HK'
          skip
          try simp only [List.getElem_toArray, List.getElem_cons_succ, List.getElem_cons_zero]
          go_simp
          go_at_call 84
          refine (ref_sameParts _ (HPA.out.sl (by decide) (fun a v e => by cases e)) (HP7.out.mono Gwa.sub)).mono ?_
          rw [decide_eq_true rfl]
          rintro e wb ⟨rfl, hbwb⟩
          have Gwb := Grow.trans Gwa hbwb
          refine HK.out _ _ ⟨fun _ => HS.out _ Gwb, ?_⟩
          clear HK K
          try simp only [Act.put, List.getElem_toArray, List.getElem_cons_succ, List.getElem_cons_zero, List.setIfInBounds_toArray, List.set_cons_zero, List.set_cons_succ]
          refine but_take (i := 5) (v := ?_) 26 rfl (by kernel_rfl) (by kernel_rfl) (by kernel_rfl) (by kernel_rfl) (by kernel_rfl) (fun _ _ _ h => h) (HS.out _ Gwb) (Or.inl ⟨by rfl, ?_⟩) ?_
          rotate_left
          · (intro w' hSw; (try dsimp only at hSw); obtain ⟨hs0, hs1, hs2, hs3⟩ := hSw; go_simp <;> with_reducible rfl)
          try simp only [Act.put, List.getElem_toArray, List.getElem_cons_succ, List.getElem_cons_zero, List.setIfInBounds_toArray, List.set_cons_zero, List.set_cons_succ]
          refine but_take (i := 6) (v := ?_) 26 rfl (by kernel_rfl) (by kernel_rfl) (by kernel_rfl) (by kernel_rfl) (by kernel_rfl) (fun _ _ _ h => h) (HS.out _ Gwb) (Or.inl ⟨by rfl, ?_⟩) ?_
          rotate_left
          · (intro w' hSw; (try dsimp only at hSw); obtain ⟨hs0, hs1, hs2, hs3⟩ := hSw; go_simp <;> with_reducible rfl)
          try simp only [Act.put, List.getElem_toArray, List.getElem_cons_succ, List.getElem_cons_zero, List.setIfInBounds_toArray, List.set_cons_zero, List.set_cons_succ]
          refine but_take (i := 7) (v := ?_) 26 rfl (by kernel_rfl) (by kernel_rfl) (by kernel_rfl) (by kernel_rfl) (by kernel_rfl) (fun _ _ _ h => h) (HS.out _ Gwb) (Or.inl ⟨by rfl, ?_⟩) ?_
          rotate_left
          · (intro w' hSw; (try dsimp only at hSw); obtain ⟨hs0, hs1, hs2, hs3⟩ := hSw; go_simp <;> with_reducible rfl)
          try simp only [Act.put, List.getElem_toArray, List.getElem_cons_succ, List.getElem_cons_zero, List.setIfInBounds_toArray, List.set_cons_zero, List.set_cons_succ]
          refine but_take (i := 9) (v := ?_) 26 rfl (by kernel_rfl) (by kernel_rfl) (by kernel_rfl) (by kernel_rfl) (by kernel_rfl) (fun _ _ _ h => h) (HS.out _ Gwb) (Or.inl ⟨by rfl, ?_⟩) ?_
          rotate_left
          · (intro w' hSw; (try dsimp only at hSw); obtain ⟨hs0, hs1, hs2, hs3⟩ := hSw; go_simp <;> with_reducible rfl)
          try simp only [Act.put, List.getElem_toArray, List.getElem_cons_succ, List.getElem_cons_zero, List.setIfInBounds_toArray, List.set_cons_zero, List.set_cons_succ]
          refine but_take (i := 10) (v := ?_) 26 rfl (by kernel_rfl) (by kernel_rfl) (by kernel_rfl) (by kernel_rfl) (by kernel_rfl) (fun _ _ _ h => h) (HS.out _ Gwb) (Or.inl ⟨by rfl, ?_⟩) ?_
          rotate_left
          · (intro w' hSw; (try dsimp only at hSw); obtain ⟨hs0, hs1, hs2, hs3⟩ := hSw; go_simp <;> with_reducible rfl)
          try simp only [Act.put, List.getElem_toArray, List.getElem_cons_succ, List.getElem_cons_zero, List.setIfInBounds_toArray, List.set_cons_zero, List.set_cons_succ]
          refine but_one (i := 8) (by kernel_rfl) rfl ?_
          intro K HK'
          have HK := Lib.hid HK'
          clear HK'
          skip
          try simp only [List.getElem_toArray, List.getElem_cons_succ, List.getElem_cons_zero]
          go_simp
          go_at_call 86
          refine (HPF.out _ Gwb).mono ?_
          rintro e wc ⟨rfl, hbwc⟩
          have Gwc := Grow.trans Gwb hbwc
          refine HK.out _ _ ⟨fun _ => HS.out _ Gwc, ?_⟩
          clear HK K
          try simp only [Act.put, List.getElem_toArray, List.getElem_cons_succ, List.getElem_cons_zero, List.setIfInBounds_toArray, List.set_cons_zero, List.set_cons_succ]
          refine but_one (i := 11) (by kernel_rfl) rfl ?_
          intro K HK'
          have HK := Lib.hid HK'
          clear HK'
          skip
          try simp only [List.getElem_toArray, List.getElem_cons_succ, List.getElem_cons_zero]
          go_simp
          go_at_call 87
          refine (HRF.out _ Gwc).mono ?_
          rintro e wd2 ⟨rfl, hbwd2⟩
          have Gwd2 := Grow.trans Gwc hbwd2
          refine HK.out _ _ ⟨fun _ => HS.out _ Gwd2, ?_⟩
          clear HK K
          try simp only [Act.put, List.getElem_toArray, List.getElem_cons_succ, List.getElem_cons_zero, List.setIfInBounds_toArray, List.set_cons_zero, List.set_cons_succ]
          refine but_one (i := 12) (by kernel_rfl) rfl ?_
          intro K HK'
          have HK := Lib.hid HK'
          clear HK'
          skip
          try simp only [List.getElem_toArray, List.getElem_cons_succ, List.getElem_cons_zero]
          go_simp
          refine HK.out _ _ ⟨fun _ => HS.out _ Gwd2, ?_⟩
          clear HK K
          try simp only [Act.put, List.getElem_toArray, List.getElem_cons_succ, List.getElem_cons_zero, List.setIfInBounds_toArray, List.set_cons_zero, List.set_cons_succ]
          refine but_one (i := 13) (by kernel_rfl) rfl ?_
          intro K HK'
          have HK := Lib.hid HK'
          clear HK'
          skip
          try simp only [List.getElem_toArray, List.getElem_cons_succ, List.getElem_cons_zero]
          go_simp
          refine HK.out _ _ ⟨fun _ => HS.out _ Gwd2, ?_⟩
          clear HK K
          try simp only [Act.put, List.getElem_toArray, List.getElem_cons_succ, List.getElem_cons_zero, List.setIfInBounds_toArray, List.set_cons_zero, List.set_cons_succ]
          refine but_take (i := 14) (v := ?_) 26 rfl (by kernel_rfl) (by kernel_rfl) (by kernel_rfl) (by kernel_rfl) (by kernel_rfl) (fun _ _ _ h => h) (HS.out _ Gwd2) (Or.inl ⟨by rfl, ?_⟩) ?_
          rotate_left
          · (intro w' hSw; (try dsimp only at hSw); obtain ⟨hs0, hs1, hs2, hs3⟩ := hSw; go_simp <;> with_reducible rfl)
          try simp only [Act.put, List.getElem_toArray, List.getElem_cons_succ, List.getElem_cons_zero, List.setIfInBounds_toArray, List.set_cons_zero, List.set_cons_succ]
          refine but_take (i := 15) (v := ?_) 26 rfl (by kernel_rfl) (by kernel_rfl) (by kernel_rfl) (by kernel_rfl) (by kernel_rfl) (fun _ _ _ h => h) (HS.out _ Gwd2) (Or.inl ⟨by rfl, ?_⟩) ?_
          rotate_left
          · (intro w' hSw; (try dsimp only at hSw); obtain ⟨hs0, hs1, hs2, hs3⟩ := hSw; go_simp <;> with_reducible rfl)
          try simp only [Act.put, List.getElem_toArray, List.getElem_cons_succ, List.getElem_cons_zero, List.setIfInBounds_toArray, List.set_cons_zero, List.set_cons_succ]
          refine but_take (i := 16) (v := ?_) 26 rfl (by kernel_rfl) (by kernel_rfl) (by kernel_rfl) (by kernel_rfl) (by kernel_rfl) (fun _ _ _ h => h) (HS.out _ Gwd2) (Or.inl ⟨by rfl, ?_⟩) ?_
          rotate_left
          · (intro w' hSw; (try dsimp only at hSw); obtain ⟨hs0, hs1, hs2, hs3⟩ := hSw; go_simp <;> with_reducible rfl)
          try simp only [Act.put, List.getElem_toArray, List.getElem_cons_succ, List.getElem_cons_zero, List.setIfInBounds_toArray, List.set_cons_zero, List.set_cons_succ]
          refine but_take (i := 18) (v := ?_) 26 rfl (by kernel_rfl) (by kernel_rfl) (by kernel_rfl) (by kernel_rfl) (by kernel_rfl) (fun _ _ _ h => h) (HS.out _ Gwd2) (Or.inl ⟨by rfl, ?_⟩) ?_
          rotate_left
          · (intro w' hSw; (try dsimp only at hSw); obtain ⟨hs0, hs1, hs2, hs3⟩ := hSw; go_simp <;> with_reducible rfl)
          try simp only [Act.put, List.getElem_toArray, List.getElem_cons_succ, List.getElem_cons_zero, List.setIfInBounds_toArray, List.set_cons_zero, List.set_cons_succ]
          refine but_take (i := 19) (v := ?_) 26 rfl (by kernel_rfl) (by kernel_rfl) (by kernel_rfl) (by kernel_rfl) (by kernel_rfl) (fun _ _ _ h => h) (HS.out _ Gwd2) (Or.inl ⟨by rfl, ?_⟩) ?_
          rotate_left
          · (intro w' hSw; (try dsimp only at hSw); obtain ⟨hs0, hs1, hs2, hs3⟩ := hSw; go_simp <;> with_reducible rfl)
          try simp only [Act.put, List.getElem_toArray, List.getElem_cons_succ, List.getElem_cons_zero, List.setIfInBounds_toArray, List.set_cons_zero, List.set_cons_succ]
          refine but_one (i := 17) (by kernel_rfl) rfl ?_
          intro K HK'
          have HK := Lib.hid HK'
          clear HK'
          skip
          try simp only [List.getElem_toArray, List.getElem_cons_succ, List.getElem_cons_zero]
          go_simp
          go_at_call 88
          refine (HPD.out _ Gwd2).mono ?_
          rintro e we ⟨rfl, hbwe⟩
          have Gwe := Grow.trans Gwd2 hbwe
          refine HK.out _ _ ⟨fun _ => HS.out _ Gwe, ?_⟩
          clear HK K
          try simp only [Act.put, List.getElem_toArray, List.getElem_cons_succ, List.getElem_cons_zero, List.setIfInBounds_toArray, List.set_cons_zero, List.set_cons_succ]
          refine but_one (i := 20) (by kernel_rfl) rfl ?_
          intro K HK'
          have HK := Lib.hid HK'
          clear HK'
          skip
          try simp only [List.getElem_toArray, List.getElem_cons_succ, List.getElem_cons_zero]
          go_simp
          go_at_call 89
          refine (HRD.out _ Gwe).mono ?_
          rintro e wf ⟨rfl, hbwf⟩
          have Gwf := Grow.trans Gwe hbwf
          refine HK.out _ _ ⟨fun _ => HS.out _ Gwf, ?_⟩
          clear HK K
          try simp only [Act.put, List.getElem_toArray, List.getElem_cons_succ, List.getElem_cons_zero, List.setIfInBounds_toArray, List.set_cons_zero, List.set_cons_succ]
          refine but_one (i := 21) (by kernel_rfl) rfl ?_
          intro K HK'
          have HK := Lib.hid HK'
          clear HK'
          skip
          try simp only [List.getElem_toArray, List.getElem_cons_succ, List.getElem_cons_zero]
          go_simp
          refine HK.out _ _ ⟨fun _ => HS.out _ Gwf, ?_⟩
          clear HK K
          try simp only [Act.put, List.getElem_toArray, List.getElem_cons_succ, List.getElem_cons_zero, List.setIfInBounds_toArray, List.set_cons_zero, List.set_cons_succ]
          refine but_one (i := 22) (by kernel_rfl) rfl ?_
          intro K HK'
          have HK := Lib.hid HK'
          clear HK'
          skip
          try simp only [List.getElem_toArray, List.getElem_cons_succ, List.getElem_cons_zero]
          go_simp
          refine HK.out _ _ ⟨fun _ => HS.out _ Gwf, ?_⟩
          clear HK K
          try simp only [Act.put, List.getElem_toArray, List.getElem_cons_succ, List.getElem_cons_zero, List.setIfInBounds_toArray, List.set_cons_zero, List.set_cons_succ]
          refine but_one (i := 23) (by kernel_rfl) rfl ?_
          intro K HK'
          have HK := Lib.hid HK'
          clear HK'
          skip
          try simp only [List.getElem_toArray, List.getElem_cons_succ, List.getElem_cons_zero]
          go_simp
          refine HK.out _ _ ⟨fun h => absurd rfl h, ?_⟩
          clear HK K
          try simp only [Act.put, List.getElem_toArray, List.getElem_cons_succ, List.getElem_cons_zero, List.setIfInBounds_toArray, List.set_cons_zero, List.set_cons_succ]
          refine but_done (by kernel_rfl) ?_
          go_wp2
          go_ret
          exact ⟨rfl, (G_w7.out).trans Gwf⟩
  · have hb3 : (wrongE l 3 != 0) = true := by simp [hw]
    clear hw hok
    generalize wrongE l 3 = w3e at *
    go_enter Try.func18, Try.ntmps18
    go_wp2_with fail
    refine (HW1.out _ ((Grow.refl w).alloc _)).mono ?_
    rintro e w1 ⟨rfl, hb⟩
    have R7_w1 := Lib.hid (row_grow (row_new w (.cells #[.int .i64 s.a, .int .i64 s.b, .int .i64 s.c, .int .i64 s.d] 25)) hb)
    have G_w1 := Lib.hid (((Grow.refl w).alloc (.cells #[.int .i64 s.a, .int .i64 s.b, .int .i64 s.c, .int .i64 s.d] 25)).trans hb)
    clear hb
    obtain ⟨c0, c1, c2, c3⟩ := cells4 R7_w1.out
    have z7 : w.heap.size < w1.heap.size := (Array.getElem?_eq_some_iff.1 R7_w1.out).1
    go_wp2_with fail
    refine (HW2.out _ G_w1.out).mono ?_
    rintro e w2 ⟨rfl, hb⟩
    have R7_w2 := Lib.hid (row_grow R7_w1.out hb)
    have G_w2 := Lib.hid (G_w1.out.trans hb)
    clear hb c0 c1 c2 c3 z7
    obtain ⟨c0, c1, c2, c3⟩ := cells4 R7_w2.out
    have z7 : w.heap.size < w2.heap.size := (Array.getElem?_eq_some_iff.1 R7_w2.out).1
    go_wp2_with fail
    refine (HW3.out _ G_w2.out).mono ?_
    rintro e w3 ⟨rfl, hb⟩
    have R7_w3 := Lib.hid (row_grow R7_w2.out hb)
    have G_w3 := Lib.hid (G_w2.out.trans hb)
    clear hb c0 c1 c2 c3 z7
    obtain ⟨c0, c1, c2, c3⟩ := cells4 R7_w3.out
    have z7 : w.heap.size < w3.heap.size := (Array.getElem?_eq_some_iff.1 R7_w3.out).1
    go_wp2
    go_ret
    exact ⟨rfl, G_w3.out⟩
end Go.Proofs.Ytgbhpghgohggcaa

/- The closed fact that chapter 1's laws ask first, walked. -/
namespace Go.Proofs.Ytgbhpghgohggcaa
open Go.RowKit
def la1 : List Pt := [⟨2, 1, 5⟩, ⟨0, 3, -2⟩]
theorem la1_ok : PtsOk la1 := by
  intro p hp
  simp only [la1, List.mem_cons, List.not_mem_nil, or_false] at hp
  rcases hp with rfl | rfl <;> (refine ⟨?_, ?_, ?_⟩ <;> (unfold I64; decide))
theorem pts_la1 (w W : World) (hW : Grow (w.alloc (.cells #[.int .i64 2, .int .i64 1, .int .i64 5, .int .i64 0, .int .i64 3, .int .i64 (-2)] 32)) W) : Pts W.cell? (.slice (some ⟨w.heap.size, 0, none⟩) 2 2) la1 :=
  Sl.mono hW.sub (Pts.of_own (base := w.heap.size) (e := 32) (World.ownsRow_lit (size := 3) w #[.int .i64 2, .int .i64 1, .int .i64 5, .int .i64 0, .int .i64 3, .int .i64 (-2)] 2 (Nat.le_refl _) (by decide) rfl) la1_ok)
theorem pts_rest {c : CM} {B n cap : Nat} {p : Pt} {l : List Pt} (h : Pts c (.slice (some ⟨B, 0, none⟩) (n + 1) (cap + 1)) (p :: l)) : Pts c (.slice (some ⟨B, 3, none⟩) n cap) l := by
  obtain ⟨a, k, he, h1, h2, -, hel⟩ := h
  simp only [Value.slice.injEq, List.length_cons] at he
  obtain ⟨rfl, e1, rfl⟩ := he
  refine ⟨_, cap, by rw [show l.length = n by omega], by simp at h1; omega, by omega, by simp, fun i x e => ?_⟩
  obtain ⟨b, o, cs, ha, hR, hA⟩ := hel (i + 1) x (by simpa using e)
  simp only [Option.some.injEq, Addr.mk.injEq, and_true] at ha
  obtain ⟨rfl, rfl⟩ := ha
  refine ⟨B, 3, cs, rfl, hR, ?_⟩
  have e3 : 0 + (i + 1) * Ty.pt.size = 3 + i * Ty.pt.size := by show 0 + (i + 1) * 3 = 3 + i * 3; omega
  rw [← e3]
  exact hA
set_option maxRecDepth 100000 in
set_option maxHeartbeats 1000000 in
theorem alive1 (w : World) : Calls Try.prog 90 #[] w fun e w' => e = .returned (.bool true) ∧ Grow w w' := by
  have HP := Lib.hid (pts_la1 w)
  have HW3 := Lib.hid (fun (W : World) hW => part_wrong (h := 3) W (HP.out W hW))
  have HW2 := Lib.hid (fun (W : World) hW => part_wrong (h := 2) W (HP.out W hW))
  have HPO := Lib.hid (fun (W : World) hW => part_of (n := 2) W (HP.out W hW) (by decide))
  have HPH := Lib.hid (fun (W : World) hW => part_houses W (HP.out W hW) (by decide) (by simp [la1]) (by intro p hp; simp only [la1, List.mem_cons, List.not_mem_nil, or_false] at hp; rcases hp with rfl | rfl <;> decide))
  have HF1 := Lib.hid (fun (W : World) hW => part_fits (s0 := 0) (s1 := 0) (s2 := 0) (s3 := 0) (l := [⟨2, 1, 5⟩]) W (Sl.take' (HP.out W hW) 1 (by decide)) (by intro p hp; simp at hp; subst hp; decide))
  have HF2 := Lib.hid (fun (W : World) hW => part_fits (s0 := 0) (s1 := 0) (s2 := 0) (s3 := 0) (l := [⟨0, 3, -2⟩]) W (pts_rest (n := 1) (cap := 1) (HP.out W hW)) (by intro p hp; simp at hp; subst hp; decide))
  have HD1 := Lib.hid (fun (W : World) hW => part_do (s := ⟨0, 0, 0, 0⟩) (l := [⟨2, 1, 5⟩]) W (Sl.take' (HP.out W hW) 1 (by decide)) (by intro p hp; simp at hp; subst hp; decide))
  have HG : Hid (Grow w (w.alloc (.cells #[.int .i64 2, .int .i64 1, .int .i64 5, .int .i64 0, .int .i64 3, .int .i64 (-2)] 32))) := Lib.hid ((Grow.refl w).alloc _)
  have e1 : wrongE la1 3 = 0 := by decide
  have e2 : wrongE la1 2 = 3 := by decide
  have e3 : (ofL la1 2).length = 1 := by decide
  have e4 : (housesE la1).length = 2 := by decide
  have e5 : fitsE (S4 0 0 0 0) [⟨2, 1, 5⟩] = 0 := by kernel_rfl
  have e6 : fitsE (S4 0 0 0 0) [⟨0, 3, -2⟩] = 11 := by kernel_rfl
  have e7 : doP ⟨0, 0, 0, 0⟩ [⟨2, 1, 5⟩] = ⟨0, 5, 0, 0⟩ := by kernel_rfl
  rw [e1] at HW3
  rw [e2] at HW2
  rw [e5] at HF1
  rw [e6] at HF2
  rw [e7] at HD1
  have E3 := Lib.hid e3
  have E4 := Lib.hid e4
  clear e1 e2 e3 e4 e5 e6 e7
  have hix : ∀ w : World, (Instr.index 25 (.agg #[.int .i64 0, .int .i64 5, .int .i64 0, .int .i64 0]) (.int .i64 1)).run Try.prog w = .ok (.int .i64 5) w := fun w => by kernel_rfl
  go_enter Try.func90, Try.ntmps90
  go_wp2_with fail
  refine (HW3.out _ (Grow.refl _)).mono ?_
  rintro e w1 ⟨rfl, hb1⟩
  have HB1 := Lib.hid hb1
  clear hb1
  go_wp2_with fail
  refine (HW2.out _ HB1.out).mono ?_
  rintro e w2 ⟨rfl, hb2⟩
  have HB2 := Lib.hid (HB1.out.trans hb2)
  clear hb2
  go_wp2_with fail
  refine (HPO.out _ HB2.out).mono ?_
  rintro e w3 ⟨v3, rfl, ho3, hb3⟩
  obtain ⟨a3, c3, rfl⟩ := ho3.form
  rw [E3.out]
  have HB3 := Lib.hid (HB2.out.trans hb3)
  clear hb3 ho3
  go_wp2_with fail
  refine (HPH.out _ HB3.out).mono ?_
  rintro e w4 ⟨v4, rfl, ho4, hb4⟩
  obtain ⟨a4, c4, rfl⟩ := owns_form ho4
  rw [E4.out]
  have HB4 := Lib.hid (HB3.out.trans hb4)
  clear hb4 ho4
  go_wp2_with fail
  refine (HF1.out _ HB4.out).mono ?_
  rintro e w5 ⟨rfl, hb5⟩
  have HB5 := Lib.hid (HB4.out.trans hb5)
  clear hb5
  go_wp2_with fail
  refine (HF2.out _ HB5.out).mono ?_
  rintro e w6 ⟨rfl, hb6⟩
  have HB6 := Lib.hid (HB5.out.trans hb6)
  clear hb6
  go_wp2_with fail
  refine (HD1.out _ HB6.out).mono ?_
  rintro e w7 ⟨rfl, hb7⟩
  have HB7 := Lib.hid (HG.out.trans (HB6.out.trans hb7))
  clear hb7
  go_wp2
  go_ret
  exact ⟨rfl, HB7.out⟩
end Go.Proofs.Ytgbhpghgohggcaa

/- Plain: PartBack's law: done, and done back. -/
namespace Go.Proofs.Ytgbhpghgohggcaa
open Go.RowKit
/-- what parts put at a key -/
def at1 (q : Int) (l : List Pt) : Int := match l.find? (fun p => p.k == q) with | some p => p.n | none => 0
theorem at1_not {q : Int} {l : List Pt} (h : ∀ p ∈ l, p.k ≠ q) : at1 q l = 0 := by
  unfold at1
  rw [List.find?_eq_none.2 fun p hp => by simpa using h p hp]
theorem at1_mem : ∀ {l : List Pt}, (l.map (·.k)).Nodup → ∀ p ∈ l, at1 p.k l = p.n
  | [], _, p, h => by simp at h
  | x :: l, hn, p, h => by
    rw [List.map_cons, List.nodup_cons] at hn
    unfold at1
    rcases List.mem_cons.1 h with rfl | h
    · rw [List.find?_cons_of_pos (by simp)]
    · rw [List.find?_cons_of_neg (by simp; exact fun e => hn.1 (List.mem_map.2 ⟨p, h, e.symm⟩))]
      exact at1_mem hn.2 p h
theorem key_at {q : Int} {l : List Pt} (x : Int) (hn : (l.map (·.k)).Nodup) (hb : ∀ p ∈ l, -1048576 ≤ p.n ∧ p.n ≤ 1048576) (h1 : -4611686018427387904 ≤ x) (h2 : x ≤ 4611686018427387904) : keyFold x l q = x + at1 q l := by
  rw [keyFold_find x hn]
  unfold at1
  cases hf : l.find? (fun p => p.k == q) with
  | none => simp
  | some p =>
    have := hb p (List.mem_of_find?_eq_some hf)
    simp only
    unfold wrap64; omega
def backL (l : List Pt) : List Pt := l.map fun p => ⟨p.h, p.k, -p.n⟩
theorem at1_same {a b : List Pt} {q c : Int} (ha : (a.map (·.k)).Nodup) (hb : (b.map (·.k)).Nodup) (h1 : ∀ p ∈ a, p.k = q → ∃ r ∈ b, r.k = q ∧ r.n = c * p.n) (h2 : ∀ r ∈ b, r.k = q → ∃ p ∈ a, p.k = q) : at1 q b = c * at1 q a := by
  by_cases h : ∃ p ∈ a, p.k = q
  · obtain ⟨p, hp, hq⟩ := h
    obtain ⟨r, hr, hrk, hrn⟩ := h1 p hp hq
    have e1 := at1_mem ha p hp
    have e2 := at1_mem hb r hr
    rw [hq] at e1
    rw [hrk] at e2
    rw [e1, e2, hrn]
  · have e1 := at1_not (q := q) (l := a) fun p hp hq => h ⟨p, hp, hq⟩
    have e2 := at1_not (q := q) (l := b) fun r hr hq => h (h2 r hr hq)
    rw [e1, e2]; omega
theorem back_law {l : List Pt} {s : Sm} (hw : wrongE l 1 = 0) (hs : rightS s = true) :
    (fitsE s.get l = 0 → rightS (doP s l) = true ∧ fitsE (doP s l).get (backL l) = 0) ∧ doP (doP s l) (backL l) = s ∧ doP s l.reverse = doP s l := by
  obtain ⟨-, -, hp, hn0⟩ := wrong_ok hw
  have hk := wrong_keys hw
  have hn := nodup_keys hn0 (h := 0) fun p hp' => by have := hp p hp'; omega
  have hb : ∀ p ∈ l, -1048576 ≤ p.n ∧ p.n ≤ 1048576 := fun p hp' => by have := hp p hp'; omega
  have hsr := rightS_get.1 hs
  have ha : ∀ q, -1048576 ≤ at1 q l ∧ at1 q l ≤ 1048576 := fun q => by
    unfold at1
    cases hf : l.find? (fun p => p.k == q) with
    | none => simp
    | some p => exact hb p (List.mem_of_find?_eq_some hf)
  have e : ∀ q : Int, 0 ≤ q → q < 4 → (doP s l).get q = s.get q + at1 q l := fun q a b => by
    have := hsr q a b
    rw [doP_get l s hk q a b, key_at _ hn hb (by omega) (by omega)]
  have hkb : KeysOk (backL l) := fun p hp' => by
    obtain ⟨r, hr, rfl⟩ := List.mem_map.1 hp'
    exact hk r hr
  have hnb : ((backL l).map (·.k)).Nodup := by
    unfold backL
    rw [List.map_map]; exact hn
  have hbb : ∀ p ∈ backL l, -1048576 ≤ p.n ∧ p.n ≤ 1048576 := fun p hp' => by
    obtain ⟨r, hr, rfl⟩ := List.mem_map.1 hp'
    have := hb r hr
    simp only
    omega
  have eb : ∀ q, at1 q (backL l) = -1 * at1 q l := fun q => by
    refine at1_same hn hnb (fun p hp' hq => ⟨⟨p.h, p.k, -p.n⟩, List.mem_map.2 ⟨p, hp', rfl⟩, hq, ?_⟩) fun r hr hq => ?_
    · show -p.n = -1 * p.n
      omega
    · obtain ⟨p, hp', rfl⟩ := List.mem_map.1 hr
      exact ⟨p, hp', hq⟩
  have hnr : (l.reverse.map (·.k)).Nodup := by
    rw [List.map_reverse]; exact List.pairwise_reverse.2 (hn.imp fun h e => h e.symm)
  have er : ∀ q, at1 q l.reverse = 1 * at1 q l := fun q =>
    at1_same hn hnr (fun p hp' hq => ⟨p, List.mem_reverse.2 hp', hq, by omega⟩) fun r hr hq => ⟨r, List.mem_reverse.1 hr, hq⟩
  refine ⟨fun hf => ⟨rightS_get.2 fun q a b => ?_, fits_all.2 fun p hp' => ?_⟩, Sm.ext_get fun q a b => ?_, Sm.ext_get fun q a b => ?_⟩
  · rw [e q a b]
    have h0 := hsr q a b
    by_cases h : ∃ p ∈ l, p.k = q
    · obtain ⟨p, hp', hq⟩ := h
      have h1 := fits_all.1 hf p hp'
      have h2 := at1_mem hn p hp'
      have h3 := hb p hp'
      rw [hq] at h1 h2
      unfold wrap64 at h1
      omega
    · rw [at1_not fun p hp' hq => h ⟨p, hp', hq⟩]
      omega
  · obtain ⟨r, hr, rfl⟩ := List.mem_map.1 hp'
    have h1 := hk r hr
    have h0 := hsr r.k h1.1 h1.2
    have h2 := at1_mem hn r hr
    have h3 := hb r hr
    show 0 ≤ wrap64 ((doP s l).get r.k + -r.n) ∧ wrap64 ((doP s l).get r.k + -r.n) ≤ 1048576
    rw [e r.k h1.1 h1.2, h2]
    unfold wrap64
    omega
  · have h0 := hsr q a b
    have h1 := ha q
    rw [doP_get _ _ hkb q a b, key_at _ hnb hbb (by rw [e q a b]; omega) (by rw [e q a b]; omega), e q a b, eb]
    omega
  · have h0 := hsr q a b
    have hbr : ∀ p ∈ l.reverse, -1048576 ≤ p.n ∧ p.n ≤ 1048576 := fun p hp' => hb p (List.mem_reverse.1 hp')
    rw [doP_get _ _ (fun p hp' => hk p (List.mem_reverse.1 hp')) q a b, key_at _ hnr hbr (by omega) (by omega), er, e q a b]
    omega
end Go.Proofs.Ytgbhpghgohggcaa

/- Literal rows: what has just been laid whole reads as a list. -/
namespace Go.Proofs.Ytgbhpghgohggcaa
open Go.RowKit
def All2 {α β : Type} (R : α → β → Prop) : List α → List β → Prop
  | [], [] => True
  | a :: l, b :: m => R a b ∧ All2 R l m
  | _, _ => False
theorem All2.len {α β : Type} {R : α → β → Prop} : ∀ {l : List α} {m : List β}, All2 R l m → l.length = m.length
  | [], [], _ => rfl
  | _ :: _, _ :: _, h => by rw [List.length_cons, List.length_cons, All2.len h.2]
  | [], _ :: _, h => h.elim
  | _ :: _, [], h => h.elim
theorem All2.get {α β : Type} {R : α → β → Prop} : ∀ {l : List α} {m : List β}, All2 R l m → ∀ (i : Nat) (a : α) (b : β), l[i]? = some a → m[i]? = some b → R a b
  | [], [], _, i, a, b, h1, _ => by simp at h1
  | _ :: _, _ :: _, h, 0, a, b, h1, h2 => by
    simp only [List.getElem?_cons_zero, Option.some.injEq] at h1 h2
    subst h1 h2
    exact h.1
  | _ :: _, _ :: _, h, i + 1, a, b, h1, h2 => All2.get h.2 i a b (by simpa using h1) (by simpa using h2)
  | [], _ :: _, h, _, _, _, _, _ => h.elim
  | _ :: _, [], h, _, _, _, _, _ => h.elim
theorem OwnC.lit {α : Type} {T : Ty α} {c : CM} {base e : Nat} (w : World) {cs : Array Value} (css : List (List Value)) {l : List α} {g n : Nat} (hg : g = w.heap.size) (hn : n = l.length) (hb : base ≤ w.heap.size) (hm : l.length ≤ maxLen) (hcs : cs.toList = css.flatten) (hR : All2 (T.R c) css l) : OwnC T c (w.alloc (.cells cs e)) base e (.slice (some ⟨g, 0, none⟩) n n) l := by
  subst hg hn
  have hl := hR.len
  have h3 := hR.get
  refine ⟨css, ?_, hl, h3⟩
  have h := World.ownsRow_lit (base := base) (e := e) (size := T.size) w cs l.length hb hm (by rw [← Array.length_toList, hcs, flatten_len css (css_len hl h3), hl])
  rw [hcs] at h
  exact h
/-- what has just been laid whole, and what it leads to was there -/
theorem Sl.lit {α : Type} {T : Ty α} {e : Nat} (w : World) {W : World} {cs : Array Value} (css : List (List Value)) {l : List α} {g n : Nat} (h0 : 0 < T.size) (hW : Grow (w.alloc (.cells cs e)) W) (hg : g = w.heap.size) (hn : n = l.length) (hm : l.length ≤ maxLen) (hcs : cs.toList = css.flatten) (hR : All2 (T.R w.cell?) css l) : Sl T W.cell? (.slice (some ⟨g, 0, none⟩) n n) l :=
  ((OwnC.lit (base := w.heap.size) (e := e) w css hg hn (Nat.le_refl _) hm hcs hR).sl h0 ((Grow.refl _).alloc _).sub).mono hW.sub
end Go.Proofs.Ytgbhpghgohggcaa

/- The law PartBack, walked. -/
namespace Go.Proofs.Ytgbhpghgohggcaa
open Go.RowKit
theorem own_one {c : CM} {base : Nat} {p : Pt} (hi : I64 p.h ∧ I64 p.k ∧ I64 p.n) (w : World) (hb : base ≤ w.heap.size) : OwnC Ty.pt c (w.alloc (.cells #[.int .i64 p.h, .int .i64 p.k, .int .i64 p.n] 32)) base 32 (.slice (some ⟨w.heap.size, 0, none⟩) 1 1) [p] :=
  OwnC.pts (World.ownsRow_lit w #[.int .i64 p.h, .int .i64 p.k, .int .i64 p.n] 1 hb (by decide) rfl) fun q hq => by simp at hq; subst hq; exact hi
theorem OwnC.src {T : Ty Pt} {c : CM} {w : World} {base e : Nat} {v : Value} {l : List Pt} (h : OwnC T c w base e v l) : Src T c w v l := by
  obtain ⟨css, h1, h2, h3⟩ := h
  obtain ⟨a, cap, rfl⟩ := owns_form h1
  have h4 := own_src h1
  exact ⟨a, cap, css, rfl, h4.1, by obtain ⟨-, ⟨-, hn⟩ | ⟨g, cap', cur, he, -, -, hnc, hcm, -⟩⟩ := h1 <;> omega, h2, h3, h4.2⟩
theorem wf_i64 {n : Int} (h1 : -9223372036854775808 ≤ n) (h2 : n ≤ 9223372036854775807) : (Lit.int .i64 n).wf = true := by
  simp [Lit.wf, IntKind.min, IntKind.max, IntKind.signed, IntKind.bits]; omega
set_option maxRecDepth 100000 in
set_option maxHeartbeats 8000000 in
theorem partBack_walk {v vs : Value} {l : List Pt} {s : Sm} (w : World) (hv : Pts w.cell? v l) (hs : l.length * 24 ≤ 140737488351232) (hsm : Of Ty.sm w.cell? vs s) :
    Calls Try.prog 19 #[v, vs] w fun e w' => e = .returned (.bool true) ∧ Grow w w' := by
  obtain rfl := hsm.sm_form
  have HW1 := Lib.hid (fun (W : World) (hW : Grow w W) => part_wrong (h := 1) W (hv.mono hW.sub))
  have HAL := Lib.hid (alive1 (w.alloc (.cells #[.int .i64 s.a, .int .i64 s.b, .int .i64 s.c, .int .i64 s.d] 25)))
  have HV := Lib.hid hv
  have HM := Lib.hid hs
  obtain ⟨a, cap, rfl, h1, h2, -, hel⟩ := hv
  unfold maxLen at h2
  clear hsm
  by_cases hw : wrongE l 1 = 0
  · have hb3 : (wrongE l 1 != 0) = false := by simp [hw]
    cases hr : rightS s with
    | false =>
      have HR := Lib.hid hr
      clear hr hw
      generalize wrongE l 1 = w3e at *
      go_enter Try.func19, Try.ntmps19
      go_wp2_with fail
      refine HAL.out.mono ?_
      rintro e w1 ⟨rfl, hb⟩
      have R3_w1 := Lib.hid (row_grow (row_new w (.cells #[.int .i64 s.a, .int .i64 s.b, .int .i64 s.c, .int .i64 s.d] 25)) hb)
      have G_w1 := Lib.hid (((Grow.refl w).alloc (.cells #[.int .i64 s.a, .int .i64 s.b, .int .i64 s.c, .int .i64 s.d] 25)).trans hb)
      clear hb
      obtain ⟨c0, c1, c2, c3⟩ := cells4 R3_w1.out
      have z3 : w.heap.size < w1.heap.size := (Array.getElem?_eq_some_iff.1 R3_w1.out).1
      go_wp2_with fail
      refine (HW1.out _ G_w1.out).mono ?_
      rintro e w2 ⟨rfl, hb⟩
      have R3_w2 := Lib.hid (row_grow R3_w1.out hb)
      have G_w2 := Lib.hid (G_w1.out.trans hb)
      clear hb c0 c1 c2 c3 z3
      obtain ⟨c0, c1, c2, c3⟩ := cells4 R3_w2.out
      have z3 : w.heap.size < w2.heap.size := (Array.getElem?_eq_some_iff.1 R3_w2.out).1
      go_wp2_with fail
      refine (ref_rightSums _ s).mono ?_
      rw [HR.out]
      rintro e w3 ⟨rfl, hb⟩
      have R3_w3 := Lib.hid (row_grow R3_w2.out hb)
      have G_w3 := Lib.hid (G_w2.out.trans hb)
      clear hb c0 c1 c2 c3 z3
      obtain ⟨c0, c1, c2, c3⟩ := cells4 R3_w3.out
      have z3 : w.heap.size < w3.heap.size := (Array.getElem?_eq_some_iff.1 R3_w3.out).1
      go_wp2
      go_ret
      exact ⟨rfl, G_w3.out⟩
    | true =>
      have HR := Lib.hid hr
      have h0 := wrong_ok hw
      have hbl := back_law hw hr
      have hkk := wrong_keys hw
      have HPN : Hid (∀ p ∈ l, -1048576 ≤ p.n ∧ p.n ≤ 1048576) := fun p hp => by have := h0.2.2.1 p hp; omega
      have HKB : Hid (KeysOk (backL l)) := fun p hp => by
        obtain ⟨q, hq, rfl⟩ := List.mem_map.1 hp
        exact hkk q hq
      have HKT : Hid (KeysOk l.reverse) := fun p hp => hkk p (List.mem_reverse.1 hp)
      have HEB := Lib.hid hbl.2.1
      have HET := Lib.hid hbl.2.2
      have HD1 := Lib.hid (fun (W : World) (hW : Grow w W) => part_do (s := s) W (HV.out.mono hW.sub) hkk)
      have HF1 := Lib.hid (fun (W : World) (hW : Grow w W) => part_fits (s0 := s.a) (s1 := s.b) (s2 := s.c) (s3 := s.d) W (HV.out.mono hW.sub) hkk)
      by_cases hf : fitsE (S4 s.a s.b s.c s.d) l = 0
      · have HRT := Lib.hid (hbl.1 hf).1
        have HFB : Hid (fitsE (S4 (doP s l).a (doP s l).b (doP s l).c (doP s l).d) (backL l) = 0) := (hbl.1 hf).2
        have hb4 : (fitsE (S4 s.a s.b s.c s.d) l == 0) = true := by simp [hf]
        clear hr hw h0 hbl hkk hs hf
        generalize wrongE l 1 = w3e at *
        generalize fitsE (S4 s.a s.b s.c s.d) l = fe at *
        generalize doP s l = t at *
        go_enter Try.func19, Try.ntmps19
        go_wp2_with fail
        refine HAL.out.mono ?_
        rintro e w1 ⟨rfl, hb⟩
        have R3_w1 := Lib.hid (row_grow (row_new w (.cells #[.int .i64 s.a, .int .i64 s.b, .int .i64 s.c, .int .i64 s.d] 25)) hb)
        have G_w1 := Lib.hid (((Grow.refl w).alloc (.cells #[.int .i64 s.a, .int .i64 s.b, .int .i64 s.c, .int .i64 s.d] 25)).trans hb)
        clear hb
        obtain ⟨c0, c1, c2, c3⟩ := cells4 R3_w1.out
        have z3 : w.heap.size < w1.heap.size := (Array.getElem?_eq_some_iff.1 R3_w1.out).1
        go_wp2_with fail
        refine (HW1.out _ G_w1.out).mono ?_
        rintro e w2 ⟨rfl, hb⟩
        have R3_w2 := Lib.hid (row_grow R3_w1.out hb)
        have G_w2 := Lib.hid (G_w1.out.trans hb)
        clear hb c0 c1 c2 c3 z3
        obtain ⟨c0, c1, c2, c3⟩ := cells4 R3_w2.out
        have z3 : w.heap.size < w2.heap.size := (Array.getElem?_eq_some_iff.1 R3_w2.out).1
        go_wp2_with fail
        refine (ref_rightSums _ s).mono ?_
        rw [HR.out]
        rintro e w3 ⟨rfl, hb⟩
        have R3_w3 := Lib.hid (row_grow R3_w2.out hb)
        have G_w3 := Lib.hid (G_w2.out.trans hb)
        clear hb c0 c1 c2 c3 z3
        obtain ⟨c0, c1, c2, c3⟩ := cells4 R3_w3.out
        have z3 : w.heap.size < w3.heap.size := (Array.getElem?_eq_some_iff.1 R3_w3.out).1
        go_wp2
        go_loopw [5, 6, 22] (fun sb st i wr => ∃ k : Nat, k ≤ l.length ∧ i = .int .i64 k ∧ Grow w3 wr ∧ OwnC Ty.pt (fun _ => none) wr w3.heap.size 32 sb (backL (l.take k)) ∧ OwnC Ty.pt (fun _ => none) wr w3.heap.size 32 st (l.take k).reverse) (fun _ _ i _ => l.length - (intOf i).toNat)
        case atStart => exact ⟨0, by omega, rfl, Grow.refl _, OwnC.nil _ _ _ _ _, OwnC.nil _ _ _ _ _⟩
        case round =>
          obtain ⟨k, hk', rfl, hb, hbk, htn⟩ := hrel
          obtain ⟨ak, ck, rfl⟩ := hbk.form
          obtain ⟨at0, ct0, rfl⟩ := htn.form
          have HBK := Lib.hid hbk
          have HTN := Lib.hid htn
          have HB := Lib.hid hb
          by_cases hlt : k < l.length
          · skip
            obtain ⟨b, o, rfl, c0, c1, c2, i0, i1, i2⟩ := Pts.at_ hel k hlt
            replace c0 := (G_w3.out.trans hb).sub _ _ c0
            replace c1 := (G_w3.out.trans hb).sub _ _ c1
            replace c2 := (G_w3.out.trans hb).sub _ _ c2
            have htk := List.take_succ_eq_append_getElem hlt
            have HT1 := Lib.hid (show (l.take (k + 1)).reverse = [l[k]] ++ (l.take k).reverse by rw [htk]; simp)
            have HB1 := Lib.hid (show backL (l.take (k + 1)) = backL (l.take k) ++ [⟨l[k].h, l[k].k, -l[k].n⟩] by unfold backL; rw [htk, List.map_append]; rfl)
            have hn := HPN.out l[k] (List.getElem_mem hlt)
            have hlt1 : (l.take k).reverse.length ≤ k := by simp; omega
            have hlt2 : (backL (l.take k)).length ≤ k := by simp [backL]; omega
            have HI := Lib.hid (And.intro i0 (And.intro i1 i2))
            clear hel hb hbk htn htk i0 i1 i2
            generalize (l.take k).reverse = rv at *
            generalize backL (l.take k) = bk at *
            generalize l[k] = p at *
            have HIN : Hid (I64 (-p.n)) := Lib.hid (by unfold I64; exact wf_i64 (by omega) (by omega))
            have hzr := HB.out.size
            go_wp2_with (first | (at_builtin; refine wpList_appc (c := fun _ => none) (base := w3.heap.size) (l := [p]) (m := rv) ei_pt rfl one_Tpt (by decide) rfl (.tmp 27) (.tmp 28) rfl rfl ?own rfl ?src ?d2 ?d3 ?_))
            case own => exact OwnC.lit (T := Ty.pt) (wr.alloc (.cells #[.int .i64 p.h, .int .i64 p.k, .int .i64 p.n] 32)) [[.int .i64 p.h, .int .i64 p.k, .int .i64 p.n]] (by simp) rfl (by simp; omega) (by simp [maxLen]) rfl ⟨⟨rfl, HI.out⟩, trivial⟩
            case src => exact (OwnC.src HTN.out).mono (fun a v e => by cases e) (((Grow.refl wr).alloc _).alloc _).sub
            case d2 => have := HM.out; simp; omega
            case d3 => simp; omega
            intro a9 c9 w9 ho9 hg9 hb9
            have HO9 := Lib.hid ho9
            have HG9 : Hid (Grow wr w9) := Lib.hid (grow_by (w0 := wr) (((Grow.refl wr).alloc _).alloc _) hg9 (own_at (by simp)))
            have HBL := Lib.hid hb9
            have R8 : Hid (w9.heap[wr.heap.size]? = some (.cells #[.int .i64 p.h, .int .i64 p.k, .int .i64 p.n] 32 (0, 0))) := Lib.hid (row_by (heap_later (row_new wr _) _) hg9 (by simp [Value.ownBlock]))
            clear ho9 hg9 hb9
            obtain ⟨q0, q1, q2⟩ := cells3 R8.out
            have z8 : wr.heap.size < w9.heap.size := (Array.getElem?_eq_some_iff.1 R8.out).1
            have f8 := row_free R8.out
            go_wp2_with (first | (at_builtin; refine wpList_appc (c := fun _ => none) (base := w3.heap.size) (l := bk) (m := [⟨p.h, p.k, -p.n⟩]) ei_pt rfl one_Tpt (by decide) rfl (.tmp 34) (.tmp 36) rfl rfl ?own rfl (Src.of_new (T := Ty.pt) (x := ⟨p.h, p.k, -p.n⟩) (cs := #[.int .i64 p.h, .int .i64 p.k, .int .i64 (-p.n)]) ⟨rfl, HI.out.1, HI.out.2.1, HIN.out⟩ _ _ ?d1) ?d2 ?d3 ?_))
            case own => exact ((HBK.out.grow HG9.out).kept (grownBy_setCell _ ⟨wr.heap.size, 2, none⟩ _) (.inr fun e => by have h9 := (HBK.out.lt _ e).2; simp only at h9; omega)).grow ((Grow.refl _).alloc _)
            case d1 => simp
            case d2 => have := HM.out; simp; omega
            case d3 => have := HG9.out.size; simp; omega
            intro a10 c10 w10 ho10 hg10 hb10
            have HO10 := Lib.hid ho10
            have HGC : Hid (Grow w3 w10) := Lib.hid (grow_by (w0 := w3) (((HB.out.trans HG9.out).setCell (by show w3.heap.size ≤ wr.heap.size; omega) _).alloc _) hg10 (fun q hq => (HBK.out.lt q hq).1))
            have HT10 : Hid (OwnC Ty.pt (fun _ => none) w10 w3.heap.size 32 (.slice a9 ([p].length + rv.length) c9) ([p] ++ rv)) := Lib.hid (((HO9.out.kept (grownBy_setCell _ ⟨wr.heap.size, 2, none⟩ _) (by rcases HBL.out with e | ⟨g, e, hg⟩ <;> (rw [e]; simp [Value.ownBlock]; try (first | omega | (simp at hg; omega))))).grow ((Grow.refl _).alloc _)).kept hg10 (by rcases HBL.out with e | ⟨g, e, hg⟩ <;> (rw [e]; right; intro e2; have := (HBK.out.lt _ e2.symm).2; simp at *; omega)))
            clear ho10 hg10 hb10
            go_wp2
            go_roundw
            case rel => exact ⟨k + 1, by omega, by go_num, HGC.out, by rw [HB1.out]; exact HO10.out, by rw [HT1.out]; exact HT10.out⟩
            case measure => simp [intOf]; omega
          · skip
            obtain rfl : k = l.length := by omega
            rw [List.take_of_length_le (Nat.le_refl _)] at hbk htn
            have HPB : Hid (Sl Ty.pt wr.cell? (.slice ak l.length ck) (backL l)) := Lib.hid (by have h9 := hbk.sl (by decide) (fun a v e => by cases e); rwa [show (backL l).length = l.length by simp [backL]] at h9)
            have HPT : Hid (Sl Ty.pt wr.cell? (.slice at0 l.length ct0) l.reverse) := Lib.hid (by have h9 := htn.sl (by decide) (fun a v e => by cases e); rwa [List.length_reverse] at h9)
            have GG := Lib.hid (G_w3.out.trans hb)
            have R3_wr := Lib.hid (row_grow R3_w3.out hb)
            clear hel HBK HTN hbk htn c0 c1 c2 c3 z3
            skip
            obtain ⟨c0, c1, c2, c3⟩ := cells4 R3_wr.out
            have z3 : w.heap.size < wr.heap.size := (Array.getElem?_eq_some_iff.1 R3_wr.out).1
            have hlb : (backL l).length = l.length := by simp [backL]
            go_wp2_with fail
            refine (HD1.out _ GG.out).mono ?_
            rintro e w9 ⟨rfl, hb9⟩
            have R3_w9 := Lib.hid (row_grow R3_wr.out hb9)
            have G_w9 := Lib.hid (GG.out.trans hb9)
            have HPB9 := Lib.hid (HPB.out.mono hb9.sub)
            have HPT9 := Lib.hid (HPT.out.mono hb9.sub)
            clear hb9 c0 c1 c2 c3 z3
            obtain ⟨c0, c1, c2, c3⟩ := cells4 R3_w9.out
            have z3 : w.heap.size < w9.heap.size := (Array.getElem?_eq_some_iff.1 R3_w9.out).1
            go_wp2_with fail
            refine (HF1.out _ (G_w9.out.alloc _)).mono ?_
            rintro e wy ⟨rfl, hby⟩
            have R3_wy := Lib.hid (row_grow (heap_later R3_w9.out _) hby)
            have R9_wy := Lib.hid (row_grow (row_new w9 (.cells #[.int .i64 t.a, .int .i64 t.b, .int .i64 t.c, .int .i64 t.d] 25)) hby)
            have HBY := Lib.hid (((Grow.refl w9).alloc (.cells #[.int .i64 t.a, .int .i64 t.b, .int .i64 t.c, .int .i64 t.d] 25)).trans hby)
            clear hby c0 c1 c2 c3 z3
            obtain ⟨d0, d1, d2, d3⟩ := cells4 R9_wy.out
            have z9 : w9.heap.size < wy.heap.size := (Array.getElem?_eq_some_iff.1 R9_wy.out).1
            go_wp2_with fail
            refine (ref_rightSums _ t).mono ?_
            rw [HRT.out]
            rintro e wz ⟨rfl, hbz⟩
            have R9_wz := Lib.hid (row_grow R9_wy.out hbz)
            have R3_wz := Lib.hid (row_grow R3_wy.out hbz)
            have HBZ := Lib.hid (HBY.out.trans hbz)
            clear hbz d0 d1 d2 d3 z9
            obtain ⟨d0, d1, d2, d3⟩ := cells4 R9_wz.out
            have z9 : w9.heap.size < wz.heap.size := (Array.getElem?_eq_some_iff.1 R9_wz.out).1
            go_wp2_with fail
            refine (part_fits (s0 := t.a) (s1 := t.b) (s2 := t.c) (s3 := t.d) _ (HPB9.out.mono HBZ.out.sub) HKB.out).mono ?_
            rw [HFB.out]
            rintro e wx ⟨rfl, hbx⟩
            have R9_wx := Lib.hid (row_grow R9_wz.out hbx)
            have R3_wx := Lib.hid (row_grow R3_wz.out hbx)
            have HBX := Lib.hid (HBZ.out.trans hbx)
            clear hbx d0 d1 d2 d3 z9
            have G_x := Lib.hid (G_w9.out.trans HBX.out)
            have HS : Hid (∀ W, Grow wx W → W.cell? ⟨w.heap.size, 0, none⟩ = some (.int .i64 s.a) ∧ W.cell? ⟨w.heap.size, 1, none⟩ = some (.int .i64 s.b) ∧ W.cell? ⟨w.heap.size, 2, none⟩ = some (.int .i64 s.c) ∧ W.cell? ⟨w.heap.size, 3, none⟩ = some (.int .i64 s.d) ∧ W.cell? ⟨w9.heap.size, 0, none⟩ = some (.int .i64 t.a) ∧ W.cell? ⟨w9.heap.size, 1, none⟩ = some (.int .i64 t.b) ∧ W.cell? ⟨w9.heap.size, 2, none⟩ = some (.int .i64 t.c) ∧ W.cell? ⟨w9.heap.size, 3, none⟩ = some (.int .i64 t.d)) := fun W hW => by
              obtain ⟨c0, c1, c2, c3⟩ := cells4 (row_grow R3_wx.out hW)
              obtain ⟨d0, d1, d2, d3⟩ := cells4 (row_grow R9_wx.out hW)
              exact ⟨c0, c1, c2, c3, d0, d1, d2, d3⟩
            have HDB := Lib.hid (fun (W : World) (hW : Grow wx W) => part_do (s := t) W (HPB9.out.mono (HBX.out.trans hW).sub) HKB.out)
            have HDT := Lib.hid (fun (W : World) (hW : Grow wx W) => part_do (s := s) W (HPT9.out.mono (HBX.out.trans hW).sub) HKT.out)
            rw [HEB.out] at HDB
            rw [HET.out] at HDT
            have HQ1 : ∀ u : World, (binOp .eql 25 (.agg #[.int .i64 s.a, .int .i64 s.b, .int .i64 s.c, .int .i64 s.d]) (.agg #[.int .i64 s.a, .int .i64 s.b, .int .i64 s.c, .int .i64 s.d])).run Try.prog u = .ok (.bool true) u := fun u => by rw [eql_sm, decide_eq_true rfl]
            have HQ2 : ∀ u : World, (binOp .eql 25 (.agg #[.int .i64 t.a, .int .i64 t.b, .int .i64 t.c, .int .i64 t.d]) (.agg #[.int .i64 t.a, .int .i64 t.b, .int .i64 t.c, .int .i64 t.d])).run Try.prog u = .ok (.bool true) u := fun u => by rw [eql_sm, decide_eq_true rfl]
            have hg := guard_sm
            go_wp2
            refine but_start (fun w' => w'.cell? ⟨w.heap.size, 0, none⟩ = some (.int .i64 s.a) ∧ w'.cell? ⟨w.heap.size, 1, none⟩ = some (.int .i64 s.b) ∧ w'.cell? ⟨w.heap.size, 2, none⟩ = some (.int .i64 s.c) ∧ w'.cell? ⟨w.heap.size, 3, none⟩ = some (.int .i64 s.d) ∧ w'.cell? ⟨w9.heap.size, 0, none⟩ = some (.int .i64 t.a) ∧ w'.cell? ⟨w9.heap.size, 1, none⟩ = some (.int .i64 t.b) ∧ w'.cell? ⟨w9.heap.size, 2, none⟩ = some (.int .i64 t.c) ∧ w'.cell? ⟨w9.heap.size, 3, none⟩ = some (.int .i64 t.d)) 12 (by kernel_rfl) ?_
            obtain ⟨wd, hWd⟩ : ∃ x : World, x = wx.drew := ⟨_, rfl⟩
            rw [← hWd]
            have GD : Grow wx wd := by rw [hWd]; exact (Grow.refl _).drew
            have zD : wx.heap.size = wd.heap.size := by rw [hWd]; rfl
            have ZD := Lib.hid zD
            clear hWd zD
            refine but_take (i := 0) (v := ?_) 15 rfl (by kernel_rfl) (by kernel_rfl) (by kernel_rfl) (by kernel_rfl) (by kernel_rfl) (fun _ _ _ h => h) (HS.out _ GD) (Or.inl ⟨by rfl, ?_⟩) ?_
            rotate_left
            · (intro w' hSw; (try dsimp only at hSw); obtain ⟨hs0, hs1, hs2, hs3, hs4, hs5, hs6, hs7⟩ := hSw; go_simp <;> with_reducible rfl)
            try simp only [Act.put, List.getElem_toArray, List.getElem_cons_zero, List.setIfInBounds_toArray, List.set_cons_zero, List.set_cons_succ]
            refine but_take (i := 1) (v := ?_) 15 rfl (by kernel_rfl) (by kernel_rfl) (by kernel_rfl) (by kernel_rfl) (by kernel_rfl) (fun _ _ _ h => h) (HS.out _ GD) (Or.inl ⟨by rfl, ?_⟩) ?_
            rotate_left
            · (intro w' hSw; (try dsimp only at hSw); obtain ⟨hs0, hs1, hs2, hs3, hs4, hs5, hs6, hs7⟩ := hSw; go_simp <;> with_reducible rfl)
            try simp only [Act.put, List.getElem_toArray, List.getElem_cons_succ, List.getElem_cons_zero, List.setIfInBounds_toArray, List.set_cons_zero, List.set_cons_succ]
            refine but_take (i := 3) (v := ?_) 15 rfl (by kernel_rfl) (by kernel_rfl) (by kernel_rfl) (by kernel_rfl) (by kernel_rfl) (fun _ _ _ h => h) (HS.out _ GD) (Or.inl ⟨by rfl, ?_⟩) ?_
            rotate_left
            · (intro w' hSw; (try dsimp only at hSw); obtain ⟨hs0, hs1, hs2, hs3, hs4, hs5, hs6, hs7⟩ := hSw; go_simp <;> with_reducible rfl)
            try simp only [Act.put, List.getElem_toArray, List.getElem_cons_succ, List.getElem_cons_zero, List.setIfInBounds_toArray, List.set_cons_zero, List.set_cons_succ]
            refine but_one (i := 2) (by kernel_rfl) rfl ?_
            intro K HK'
            have HK := Lib.hid HK'
            clear HK'
            skip
            try simp only [List.getElem_toArray, List.getElem_cons_succ, List.getElem_cons_zero]
            go_simp
            go_at_call 88
            refine (HDB.out _ GD).mono ?_
            rintro e wa ⟨rfl, hbwa⟩
            have Gwa := Grow.trans GD hbwa
            refine HK.out _ _ ⟨fun _ => HS.out _ Gwa, ?_⟩
            clear HK K
            try simp only [Act.put, List.getElem_toArray, List.getElem_cons_succ, List.getElem_cons_zero, List.setIfInBounds_toArray, List.set_cons_zero, List.set_cons_succ]
            refine but_one (i := 4) (by kernel_rfl) rfl ?_
            intro K HK'
            have HK := Lib.hid HK'
            clear HK'
            skip
            try simp only [List.getElem_toArray, List.getElem_cons_succ, List.getElem_cons_zero]
            go_simp
            refine HK.out _ _ ⟨fun _ => HS.out _ Gwa, ?_⟩
            clear HK K
            try simp only [Act.put, List.getElem_toArray, List.getElem_cons_succ, List.getElem_cons_zero, List.setIfInBounds_toArray, List.set_cons_zero, List.set_cons_succ]
            refine but_one (i := 5) (by kernel_rfl) rfl ?_
            intro K HK'
            have HK := Lib.hid HK'
            clear HK'
            skip
            try simp only [List.getElem_toArray, List.getElem_cons_succ, List.getElem_cons_zero]
            go_simp
            refine HK.out _ _ ⟨fun _ => HS.out _ Gwa, ?_⟩
            clear HK K
            try simp only [Act.put, List.getElem_toArray, List.getElem_cons_succ, List.getElem_cons_zero, List.setIfInBounds_toArray, List.set_cons_zero, List.set_cons_succ]
            refine but_take (i := 6) (v := ?_) 15 rfl (by kernel_rfl) (by kernel_rfl) (by kernel_rfl) (by kernel_rfl) (by kernel_rfl) (fun _ _ _ h => h) (HS.out _ Gwa) (Or.inl ⟨by rfl, ?_⟩) ?_
            rotate_left
            · (intro w' hSw; (try dsimp only at hSw); obtain ⟨hs0, hs1, hs2, hs3, hs4, hs5, hs6, hs7⟩ := hSw; go_simp <;> with_reducible rfl)
            try simp only [Act.put, List.getElem_toArray, List.getElem_cons_succ, List.getElem_cons_zero, List.setIfInBounds_toArray, List.set_cons_zero, List.set_cons_succ]
            refine but_take (i := 7) (v := ?_) 15 rfl (by kernel_rfl) (by kernel_rfl) (by kernel_rfl) (by kernel_rfl) (by kernel_rfl) (fun _ _ _ h => h) (HS.out _ Gwa) (Or.inl ⟨by rfl, ?_⟩) ?_
            rotate_left
            · (intro w' hSw; (try dsimp only at hSw); obtain ⟨hs0, hs1, hs2, hs3, hs4, hs5, hs6, hs7⟩ := hSw; go_simp <;> with_reducible rfl)
            try simp only [Act.put, List.getElem_toArray, List.getElem_cons_succ, List.getElem_cons_zero, List.setIfInBounds_toArray, List.set_cons_zero, List.set_cons_succ]
            refine but_take (i := 9) (v := ?_) 15 rfl (by kernel_rfl) (by kernel_rfl) (by kernel_rfl) (by kernel_rfl) (by kernel_rfl) (fun _ _ _ h => h) (HS.out _ Gwa) (Or.inl ⟨by rfl, ?_⟩) ?_
            rotate_left
            · (intro w' hSw; (try dsimp only at hSw); obtain ⟨hs0, hs1, hs2, hs3, hs4, hs5, hs6, hs7⟩ := hSw; go_simp <;> with_reducible rfl)
            try simp only [Act.put, List.getElem_toArray, List.getElem_cons_succ, List.getElem_cons_zero, List.setIfInBounds_toArray, List.set_cons_zero, List.set_cons_succ]
            refine but_one (i := 8) (by kernel_rfl) rfl ?_
            intro K HK'
            have HK := Lib.hid HK'
            clear HK'
            skip
            try simp only [List.getElem_toArray, List.getElem_cons_succ, List.getElem_cons_zero]
            go_simp
            go_at_call 88
            refine (HDT.out _ Gwa).mono ?_
            rintro e wb ⟨rfl, hbwb⟩
            have Gwb := Grow.trans Gwa hbwb
            refine HK.out _ _ ⟨fun _ => HS.out _ Gwb, ?_⟩
            clear HK K
            try simp only [Act.put, List.getElem_toArray, List.getElem_cons_succ, List.getElem_cons_zero, List.setIfInBounds_toArray, List.set_cons_zero, List.set_cons_succ]
            refine but_one (i := 10) (by kernel_rfl) rfl ?_
            intro K HK'
            have HK := Lib.hid HK'
            clear HK'
            skip
            try simp only [List.getElem_toArray, List.getElem_cons_succ, List.getElem_cons_zero]
            go_simp
            refine HK.out _ _ ⟨fun _ => HS.out _ Gwb, ?_⟩
            clear HK K
            try simp only [Act.put, List.getElem_toArray, List.getElem_cons_succ, List.getElem_cons_zero, List.setIfInBounds_toArray, List.set_cons_zero, List.set_cons_succ]
            refine but_one (i := 11) (by kernel_rfl) rfl ?_
            intro K HK'
            have HK := Lib.hid HK'
            clear HK'
            skip
            try simp only [List.getElem_toArray, List.getElem_cons_succ, List.getElem_cons_zero]
            go_simp
            refine HK.out _ _ ⟨fun _ => HS.out _ Gwb, ?_⟩
            clear HK K
            try simp only [Act.put, List.getElem_toArray, List.getElem_cons_succ, List.getElem_cons_zero, List.setIfInBounds_toArray, List.set_cons_zero, List.set_cons_succ]
            refine but_one (i := 12) (by kernel_rfl) rfl ?_
            intro K HK'
            have HK := Lib.hid HK'
            clear HK'
            skip
            try simp only [List.getElem_toArray, List.getElem_cons_succ, List.getElem_cons_zero]
            go_simp
            refine HK.out _ _ ⟨fun h => absurd rfl h, ?_⟩
            clear HK K
            try simp only [Act.put, List.getElem_toArray, List.getElem_cons_succ, List.getElem_cons_zero, List.setIfInBounds_toArray, List.set_cons_zero, List.set_cons_succ]
            refine but_done (by kernel_rfl) ?_
            go_wp2
            go_ret
            exact ⟨rfl, G_x.out.trans Gwb⟩
      · have hb4 : (fitsE (S4 s.a s.b s.c s.d) l == 0) = false := by simp [hf]
        clear hr hw h0 hbl hkk hs hf
        generalize wrongE l 1 = w3e at *
        generalize fitsE (S4 s.a s.b s.c s.d) l = fe at *
        generalize doP s l = t at *
        go_enter Try.func19, Try.ntmps19
        go_wp2_with fail
        refine HAL.out.mono ?_
        rintro e w1 ⟨rfl, hb⟩
        have R3_w1 := Lib.hid (row_grow (row_new w (.cells #[.int .i64 s.a, .int .i64 s.b, .int .i64 s.c, .int .i64 s.d] 25)) hb)
        have G_w1 := Lib.hid (((Grow.refl w).alloc (.cells #[.int .i64 s.a, .int .i64 s.b, .int .i64 s.c, .int .i64 s.d] 25)).trans hb)
        clear hb
        obtain ⟨c0, c1, c2, c3⟩ := cells4 R3_w1.out
        have z3 : w.heap.size < w1.heap.size := (Array.getElem?_eq_some_iff.1 R3_w1.out).1
        go_wp2_with fail
        refine (HW1.out _ G_w1.out).mono ?_
        rintro e w2 ⟨rfl, hb⟩
        have R3_w2 := Lib.hid (row_grow R3_w1.out hb)
        have G_w2 := Lib.hid (G_w1.out.trans hb)
        clear hb c0 c1 c2 c3 z3
        obtain ⟨c0, c1, c2, c3⟩ := cells4 R3_w2.out
        have z3 : w.heap.size < w2.heap.size := (Array.getElem?_eq_some_iff.1 R3_w2.out).1
        go_wp2_with fail
        refine (ref_rightSums _ s).mono ?_
        rw [HR.out]
        rintro e w3 ⟨rfl, hb⟩
        have R3_w3 := Lib.hid (row_grow R3_w2.out hb)
        have G_w3 := Lib.hid (G_w2.out.trans hb)
        clear hb c0 c1 c2 c3 z3
        obtain ⟨c0, c1, c2, c3⟩ := cells4 R3_w3.out
        have z3 : w.heap.size < w3.heap.size := (Array.getElem?_eq_some_iff.1 R3_w3.out).1
        go_wp2
        go_loopw [5, 6, 22] (fun sb st i wr => ∃ k : Nat, k ≤ l.length ∧ i = .int .i64 k ∧ Grow w3 wr ∧ OwnC Ty.pt (fun _ => none) wr w3.heap.size 32 sb (backL (l.take k)) ∧ OwnC Ty.pt (fun _ => none) wr w3.heap.size 32 st (l.take k).reverse) (fun _ _ i _ => l.length - (intOf i).toNat)
        case atStart => exact ⟨0, by omega, rfl, Grow.refl _, OwnC.nil _ _ _ _ _, OwnC.nil _ _ _ _ _⟩
        case round =>
          obtain ⟨k, hk', rfl, hb, hbk, htn⟩ := hrel
          obtain ⟨ak, ck, rfl⟩ := hbk.form
          obtain ⟨at0, ct0, rfl⟩ := htn.form
          have HBK := Lib.hid hbk
          have HTN := Lib.hid htn
          have HB := Lib.hid hb
          by_cases hlt : k < l.length
          · skip
            obtain ⟨b, o, rfl, c0, c1, c2, i0, i1, i2⟩ := Pts.at_ hel k hlt
            replace c0 := (G_w3.out.trans hb).sub _ _ c0
            replace c1 := (G_w3.out.trans hb).sub _ _ c1
            replace c2 := (G_w3.out.trans hb).sub _ _ c2
            have htk := List.take_succ_eq_append_getElem hlt
            have HT1 := Lib.hid (show (l.take (k + 1)).reverse = [l[k]] ++ (l.take k).reverse by rw [htk]; simp)
            have HB1 := Lib.hid (show backL (l.take (k + 1)) = backL (l.take k) ++ [⟨l[k].h, l[k].k, -l[k].n⟩] by unfold backL; rw [htk, List.map_append]; rfl)
            have hn := HPN.out l[k] (List.getElem_mem hlt)
            have hlt1 : (l.take k).reverse.length ≤ k := by simp; omega
            have hlt2 : (backL (l.take k)).length ≤ k := by simp [backL]; omega
            have HI := Lib.hid (And.intro i0 (And.intro i1 i2))
            clear hel hb hbk htn htk i0 i1 i2
            generalize (l.take k).reverse = rv at *
            generalize backL (l.take k) = bk at *
            generalize l[k] = p at *
            have HIN : Hid (I64 (-p.n)) := Lib.hid (by unfold I64; exact wf_i64 (by omega) (by omega))
            have hzr := HB.out.size
            go_wp2_with (first | (at_builtin; refine wpList_appc (c := fun _ => none) (base := w3.heap.size) (l := [p]) (m := rv) ei_pt rfl one_Tpt (by decide) rfl (.tmp 27) (.tmp 28) rfl rfl ?own rfl ?src ?d2 ?d3 ?_))
            case own => exact OwnC.lit (T := Ty.pt) (wr.alloc (.cells #[.int .i64 p.h, .int .i64 p.k, .int .i64 p.n] 32)) [[.int .i64 p.h, .int .i64 p.k, .int .i64 p.n]] (by simp) rfl (by simp; omega) (by simp [maxLen]) rfl ⟨⟨rfl, HI.out⟩, trivial⟩
            case src => exact (OwnC.src HTN.out).mono (fun a v e => by cases e) (((Grow.refl wr).alloc _).alloc _).sub
            case d2 => have := HM.out; simp; omega
            case d3 => simp; omega
            intro a9 c9 w9 ho9 hg9 hb9
            have HO9 := Lib.hid ho9
            have HG9 : Hid (Grow wr w9) := Lib.hid (grow_by (w0 := wr) (((Grow.refl wr).alloc _).alloc _) hg9 (own_at (by simp)))
            have HBL := Lib.hid hb9
            have R8 : Hid (w9.heap[wr.heap.size]? = some (.cells #[.int .i64 p.h, .int .i64 p.k, .int .i64 p.n] 32 (0, 0))) := Lib.hid (row_by (heap_later (row_new wr _) _) hg9 (by simp [Value.ownBlock]))
            clear ho9 hg9 hb9
            obtain ⟨q0, q1, q2⟩ := cells3 R8.out
            have z8 : wr.heap.size < w9.heap.size := (Array.getElem?_eq_some_iff.1 R8.out).1
            have f8 := row_free R8.out
            go_wp2_with (first | (at_builtin; refine wpList_appc (c := fun _ => none) (base := w3.heap.size) (l := bk) (m := [⟨p.h, p.k, -p.n⟩]) ei_pt rfl one_Tpt (by decide) rfl (.tmp 34) (.tmp 36) rfl rfl ?own rfl (Src.of_new (T := Ty.pt) (x := ⟨p.h, p.k, -p.n⟩) (cs := #[.int .i64 p.h, .int .i64 p.k, .int .i64 (-p.n)]) ⟨rfl, HI.out.1, HI.out.2.1, HIN.out⟩ _ _ ?d1) ?d2 ?d3 ?_))
            case own => exact ((HBK.out.grow HG9.out).kept (grownBy_setCell _ ⟨wr.heap.size, 2, none⟩ _) (.inr fun e => by have h9 := (HBK.out.lt _ e).2; simp only at h9; omega)).grow ((Grow.refl _).alloc _)
            case d1 => simp
            case d2 => have := HM.out; simp; omega
            case d3 => have := HG9.out.size; simp; omega
            intro a10 c10 w10 ho10 hg10 hb10
            have HO10 := Lib.hid ho10
            have HGC : Hid (Grow w3 w10) := Lib.hid (grow_by (w0 := w3) (((HB.out.trans HG9.out).setCell (by show w3.heap.size ≤ wr.heap.size; omega) _).alloc _) hg10 (fun q hq => (HBK.out.lt q hq).1))
            have HT10 : Hid (OwnC Ty.pt (fun _ => none) w10 w3.heap.size 32 (.slice a9 ([p].length + rv.length) c9) ([p] ++ rv)) := Lib.hid (((HO9.out.kept (grownBy_setCell _ ⟨wr.heap.size, 2, none⟩ _) (by rcases HBL.out with e | ⟨g, e, hg⟩ <;> (rw [e]; simp [Value.ownBlock]; try (first | omega | (simp at hg; omega))))).grow ((Grow.refl _).alloc _)).kept hg10 (by rcases HBL.out with e | ⟨g, e, hg⟩ <;> (rw [e]; right; intro e2; have := (HBK.out.lt _ e2.symm).2; simp at *; omega)))
            clear ho10 hg10 hb10
            go_wp2
            go_roundw
            case rel => exact ⟨k + 1, by omega, by go_num, HGC.out, by rw [HB1.out]; exact HO10.out, by rw [HT1.out]; exact HT10.out⟩
            case measure => simp [intOf]; omega
          · skip
            obtain rfl : k = l.length := by omega
            rw [List.take_of_length_le (Nat.le_refl _)] at hbk htn
            have HPB : Hid (Sl Ty.pt wr.cell? (.slice ak l.length ck) (backL l)) := Lib.hid (by have h9 := hbk.sl (by decide) (fun a v e => by cases e); rwa [show (backL l).length = l.length by simp [backL]] at h9)
            have HPT : Hid (Sl Ty.pt wr.cell? (.slice at0 l.length ct0) l.reverse) := Lib.hid (by have h9 := htn.sl (by decide) (fun a v e => by cases e); rwa [List.length_reverse] at h9)
            have GG := Lib.hid (G_w3.out.trans hb)
            have R3_wr := Lib.hid (row_grow R3_w3.out hb)
            clear hel HBK HTN hbk htn c0 c1 c2 c3 z3
            skip
            obtain ⟨c0, c1, c2, c3⟩ := cells4 R3_wr.out
            have z3 : w.heap.size < wr.heap.size := (Array.getElem?_eq_some_iff.1 R3_wr.out).1
            have hlb : (backL l).length = l.length := by simp [backL]
            go_wp2_with fail
            refine (HD1.out _ GG.out).mono ?_
            rintro e w9 ⟨rfl, hb9⟩
            have R3_w9 := Lib.hid (row_grow R3_wr.out hb9)
            have G_w9 := Lib.hid (GG.out.trans hb9)
            have HPB9 := Lib.hid (HPB.out.mono hb9.sub)
            have HPT9 := Lib.hid (HPT.out.mono hb9.sub)
            clear hb9 c0 c1 c2 c3 z3
            obtain ⟨c0, c1, c2, c3⟩ := cells4 R3_w9.out
            have z3 : w.heap.size < w9.heap.size := (Array.getElem?_eq_some_iff.1 R3_w9.out).1
            go_wp2_with fail
            refine (HF1.out _ (G_w9.out.alloc _)).mono ?_
            rintro e wy ⟨rfl, hby⟩
            have R3_wy := Lib.hid (row_grow (heap_later R3_w9.out _) hby)
            have R9_wy := Lib.hid (row_grow (row_new w9 (.cells #[.int .i64 t.a, .int .i64 t.b, .int .i64 t.c, .int .i64 t.d] 25)) hby)
            have HBY := Lib.hid (((Grow.refl w9).alloc (.cells #[.int .i64 t.a, .int .i64 t.b, .int .i64 t.c, .int .i64 t.d] 25)).trans hby)
            clear hby c0 c1 c2 c3 z3
            have R9_wx := R9_wy
            have R3_wx := R3_wy
            have HBX := HBY
            obtain ⟨wx, rfl⟩ : ∃ x : World, x = wy := ⟨_, rfl⟩
            have G_x := Lib.hid (G_w9.out.trans HBX.out)
            have HS : Hid (∀ W, Grow wx W → W.cell? ⟨w.heap.size, 0, none⟩ = some (.int .i64 s.a) ∧ W.cell? ⟨w.heap.size, 1, none⟩ = some (.int .i64 s.b) ∧ W.cell? ⟨w.heap.size, 2, none⟩ = some (.int .i64 s.c) ∧ W.cell? ⟨w.heap.size, 3, none⟩ = some (.int .i64 s.d) ∧ W.cell? ⟨w9.heap.size, 0, none⟩ = some (.int .i64 t.a) ∧ W.cell? ⟨w9.heap.size, 1, none⟩ = some (.int .i64 t.b) ∧ W.cell? ⟨w9.heap.size, 2, none⟩ = some (.int .i64 t.c) ∧ W.cell? ⟨w9.heap.size, 3, none⟩ = some (.int .i64 t.d)) := fun W hW => by
              obtain ⟨c0, c1, c2, c3⟩ := cells4 (row_grow R3_wx.out hW)
              obtain ⟨d0, d1, d2, d3⟩ := cells4 (row_grow R9_wx.out hW)
              exact ⟨c0, c1, c2, c3, d0, d1, d2, d3⟩
            have HDB := Lib.hid (fun (W : World) (hW : Grow wx W) => part_do (s := t) W (HPB9.out.mono (HBX.out.trans hW).sub) HKB.out)
            have HDT := Lib.hid (fun (W : World) (hW : Grow wx W) => part_do (s := s) W (HPT9.out.mono (HBX.out.trans hW).sub) HKT.out)
            rw [HEB.out] at HDB
            rw [HET.out] at HDT
            have HQ1 : ∀ u : World, (binOp .eql 25 (.agg #[.int .i64 s.a, .int .i64 s.b, .int .i64 s.c, .int .i64 s.d]) (.agg #[.int .i64 s.a, .int .i64 s.b, .int .i64 s.c, .int .i64 s.d])).run Try.prog u = .ok (.bool true) u := fun u => by rw [eql_sm, decide_eq_true rfl]
            have HQ2 : ∀ u : World, (binOp .eql 25 (.agg #[.int .i64 t.a, .int .i64 t.b, .int .i64 t.c, .int .i64 t.d]) (.agg #[.int .i64 t.a, .int .i64 t.b, .int .i64 t.c, .int .i64 t.d])).run Try.prog u = .ok (.bool true) u := fun u => by rw [eql_sm, decide_eq_true rfl]
            have hg := guard_sm
            go_wp2
            refine but_start (fun w' => w'.cell? ⟨w.heap.size, 0, none⟩ = some (.int .i64 s.a) ∧ w'.cell? ⟨w.heap.size, 1, none⟩ = some (.int .i64 s.b) ∧ w'.cell? ⟨w.heap.size, 2, none⟩ = some (.int .i64 s.c) ∧ w'.cell? ⟨w.heap.size, 3, none⟩ = some (.int .i64 s.d) ∧ w'.cell? ⟨w9.heap.size, 0, none⟩ = some (.int .i64 t.a) ∧ w'.cell? ⟨w9.heap.size, 1, none⟩ = some (.int .i64 t.b) ∧ w'.cell? ⟨w9.heap.size, 2, none⟩ = some (.int .i64 t.c) ∧ w'.cell? ⟨w9.heap.size, 3, none⟩ = some (.int .i64 t.d)) 12 (by kernel_rfl) ?_
            obtain ⟨wd, hWd⟩ : ∃ x : World, x = wx.drew := ⟨_, rfl⟩
            rw [← hWd]
            have GD : Grow wx wd := by rw [hWd]; exact (Grow.refl _).drew
            have zD : wx.heap.size = wd.heap.size := by rw [hWd]; rfl
            have ZD := Lib.hid zD
            clear hWd zD
            refine but_take (i := 0) (v := ?_) 15 rfl (by kernel_rfl) (by kernel_rfl) (by kernel_rfl) (by kernel_rfl) (by kernel_rfl) (fun _ _ _ h => h) (HS.out _ GD) (Or.inl ⟨by rfl, ?_⟩) ?_
            rotate_left
            · (intro w' hSw; (try dsimp only at hSw); obtain ⟨hs0, hs1, hs2, hs3, hs4, hs5, hs6, hs7⟩ := hSw; go_simp <;> with_reducible rfl)
            try simp only [Act.put, List.getElem_toArray, List.getElem_cons_zero, List.setIfInBounds_toArray, List.set_cons_zero, List.set_cons_succ]
            refine but_take (i := 1) (v := ?_) 15 rfl (by kernel_rfl) (by kernel_rfl) (by kernel_rfl) (by kernel_rfl) (by kernel_rfl) (fun _ _ _ h => h) (HS.out _ GD) (Or.inl ⟨by rfl, ?_⟩) ?_
            rotate_left
            · (intro w' hSw; (try dsimp only at hSw); obtain ⟨hs0, hs1, hs2, hs3, hs4, hs5, hs6, hs7⟩ := hSw; go_simp <;> with_reducible rfl)
            try simp only [Act.put, List.getElem_toArray, List.getElem_cons_succ, List.getElem_cons_zero, List.setIfInBounds_toArray, List.set_cons_zero, List.set_cons_succ]
            refine but_take (i := 3) (v := ?_) 15 rfl (by kernel_rfl) (by kernel_rfl) (by kernel_rfl) (by kernel_rfl) (by kernel_rfl) (fun _ _ _ h => h) (HS.out _ GD) (Or.inl ⟨by rfl, ?_⟩) ?_
            rotate_left
            · (intro w' hSw; (try dsimp only at hSw); obtain ⟨hs0, hs1, hs2, hs3, hs4, hs5, hs6, hs7⟩ := hSw; go_simp <;> with_reducible rfl)
            try simp only [Act.put, List.getElem_toArray, List.getElem_cons_succ, List.getElem_cons_zero, List.setIfInBounds_toArray, List.set_cons_zero, List.set_cons_succ]
            refine but_one (i := 2) (by kernel_rfl) rfl ?_
            intro K HK'
            have HK := Lib.hid HK'
            clear HK'
            skip
            try simp only [List.getElem_toArray, List.getElem_cons_succ, List.getElem_cons_zero]
            go_simp
            go_at_call 88
            refine (HDB.out _ GD).mono ?_
            rintro e wa ⟨rfl, hbwa⟩
            have Gwa := Grow.trans GD hbwa
            refine HK.out _ _ ⟨fun _ => HS.out _ Gwa, ?_⟩
            clear HK K
            try simp only [Act.put, List.getElem_toArray, List.getElem_cons_succ, List.getElem_cons_zero, List.setIfInBounds_toArray, List.set_cons_zero, List.set_cons_succ]
            refine but_one (i := 4) (by kernel_rfl) rfl ?_
            intro K HK'
            have HK := Lib.hid HK'
            clear HK'
            skip
            try simp only [List.getElem_toArray, List.getElem_cons_succ, List.getElem_cons_zero]
            go_simp
            refine HK.out _ _ ⟨fun _ => HS.out _ Gwa, ?_⟩
            clear HK K
            try simp only [Act.put, List.getElem_toArray, List.getElem_cons_succ, List.getElem_cons_zero, List.setIfInBounds_toArray, List.set_cons_zero, List.set_cons_succ]
            refine but_one (i := 5) (by kernel_rfl) rfl ?_
            intro K HK'
            have HK := Lib.hid HK'
            clear HK'
            skip
            try simp only [List.getElem_toArray, List.getElem_cons_succ, List.getElem_cons_zero]
            go_simp
            refine HK.out _ _ ⟨fun _ => HS.out _ Gwa, ?_⟩
            clear HK K
            try simp only [Act.put, List.getElem_toArray, List.getElem_cons_succ, List.getElem_cons_zero, List.setIfInBounds_toArray, List.set_cons_zero, List.set_cons_succ]
            refine but_take (i := 6) (v := ?_) 15 rfl (by kernel_rfl) (by kernel_rfl) (by kernel_rfl) (by kernel_rfl) (by kernel_rfl) (fun _ _ _ h => h) (HS.out _ Gwa) (Or.inl ⟨by rfl, ?_⟩) ?_
            rotate_left
            · (intro w' hSw; (try dsimp only at hSw); obtain ⟨hs0, hs1, hs2, hs3, hs4, hs5, hs6, hs7⟩ := hSw; go_simp <;> with_reducible rfl)
            try simp only [Act.put, List.getElem_toArray, List.getElem_cons_succ, List.getElem_cons_zero, List.setIfInBounds_toArray, List.set_cons_zero, List.set_cons_succ]
            refine but_take (i := 7) (v := ?_) 15 rfl (by kernel_rfl) (by kernel_rfl) (by kernel_rfl) (by kernel_rfl) (by kernel_rfl) (fun _ _ _ h => h) (HS.out _ Gwa) (Or.inl ⟨by rfl, ?_⟩) ?_
            rotate_left
            · (intro w' hSw; (try dsimp only at hSw); obtain ⟨hs0, hs1, hs2, hs3, hs4, hs5, hs6, hs7⟩ := hSw; go_simp <;> with_reducible rfl)
            try simp only [Act.put, List.getElem_toArray, List.getElem_cons_succ, List.getElem_cons_zero, List.setIfInBounds_toArray, List.set_cons_zero, List.set_cons_succ]
            refine but_take (i := 9) (v := ?_) 15 rfl (by kernel_rfl) (by kernel_rfl) (by kernel_rfl) (by kernel_rfl) (by kernel_rfl) (fun _ _ _ h => h) (HS.out _ Gwa) (Or.inl ⟨by rfl, ?_⟩) ?_
            rotate_left
            · (intro w' hSw; (try dsimp only at hSw); obtain ⟨hs0, hs1, hs2, hs3, hs4, hs5, hs6, hs7⟩ := hSw; go_simp <;> with_reducible rfl)
            try simp only [Act.put, List.getElem_toArray, List.getElem_cons_succ, List.getElem_cons_zero, List.setIfInBounds_toArray, List.set_cons_zero, List.set_cons_succ]
            refine but_one (i := 8) (by kernel_rfl) rfl ?_
            intro K HK'
            have HK := Lib.hid HK'
            clear HK'
            skip
            try simp only [List.getElem_toArray, List.getElem_cons_succ, List.getElem_cons_zero]
            go_simp
            go_at_call 88
            refine (HDT.out _ Gwa).mono ?_
            rintro e wb ⟨rfl, hbwb⟩
            have Gwb := Grow.trans Gwa hbwb
            refine HK.out _ _ ⟨fun _ => HS.out _ Gwb, ?_⟩
            clear HK K
            try simp only [Act.put, List.getElem_toArray, List.getElem_cons_succ, List.getElem_cons_zero, List.setIfInBounds_toArray, List.set_cons_zero, List.set_cons_succ]
            refine but_one (i := 10) (by kernel_rfl) rfl ?_
            intro K HK'
            have HK := Lib.hid HK'
            clear HK'
            skip
            try simp only [List.getElem_toArray, List.getElem_cons_succ, List.getElem_cons_zero]
            go_simp
            refine HK.out _ _ ⟨fun _ => HS.out _ Gwb, ?_⟩
            clear HK K
            try simp only [Act.put, List.getElem_toArray, List.getElem_cons_succ, List.getElem_cons_zero, List.setIfInBounds_toArray, List.set_cons_zero, List.set_cons_succ]
            refine but_one (i := 11) (by kernel_rfl) rfl ?_
            intro K HK'
            have HK := Lib.hid HK'
            clear HK'
            skip
            try simp only [List.getElem_toArray, List.getElem_cons_succ, List.getElem_cons_zero]
            go_simp
            refine HK.out _ _ ⟨fun _ => HS.out _ Gwb, ?_⟩
            clear HK K
            try simp only [Act.put, List.getElem_toArray, List.getElem_cons_succ, List.getElem_cons_zero, List.setIfInBounds_toArray, List.set_cons_zero, List.set_cons_succ]
            refine but_one (i := 12) (by kernel_rfl) rfl ?_
            intro K HK'
            have HK := Lib.hid HK'
            clear HK'
            skip
            try simp only [List.getElem_toArray, List.getElem_cons_succ, List.getElem_cons_zero]
            go_simp
            refine HK.out _ _ ⟨fun h => absurd rfl h, ?_⟩
            clear HK K
            try simp only [Act.put, List.getElem_toArray, List.getElem_cons_succ, List.getElem_cons_zero, List.setIfInBounds_toArray, List.set_cons_zero, List.set_cons_succ]
            refine but_done (by kernel_rfl) ?_
            go_wp2
            go_ret
            exact ⟨rfl, G_x.out.trans Gwb⟩
  · have hb3 : (wrongE l 1 != 0) = true := by simp [hw]
    clear hw
    generalize wrongE l 1 = w3e at *
    go_enter Try.func19, Try.ntmps19
    go_wp2_with fail
    refine HAL.out.mono ?_
    rintro e w1 ⟨rfl, hb⟩
    have R3_w1 := Lib.hid (row_grow (row_new w (.cells #[.int .i64 s.a, .int .i64 s.b, .int .i64 s.c, .int .i64 s.d] 25)) hb)
    have G_w1 := Lib.hid (((Grow.refl w).alloc (.cells #[.int .i64 s.a, .int .i64 s.b, .int .i64 s.c, .int .i64 s.d] 25)).trans hb)
    clear hb
    obtain ⟨c0, c1, c2, c3⟩ := cells4 R3_w1.out
    have z3 : w.heap.size < w1.heap.size := (Array.getElem?_eq_some_iff.1 R3_w1.out).1
    go_wp2_with fail
    refine (HW1.out _ G_w1.out).mono ?_
    rintro e w2 ⟨rfl, hb⟩
    have R3_w2 := Lib.hid (row_grow R3_w1.out hb)
    have G_w2 := Lib.hid (G_w1.out.trans hb)
    clear hb c0 c1 c2 c3 z3
    obtain ⟨c0, c1, c2, c3⟩ := cells4 R3_w2.out
    have z3 : w.heap.size < w2.heap.size := (Array.getElem?_eq_some_iff.1 R3_w2.out).1
    go_wp2
    go_ret
    exact ⟨rfl, G_w2.out⟩
end Go.Proofs.Ytgbhpghgohggcaa

/- From the form's reading of an argument to plain readings of cells. -/
namespace Go.Proofs.Ytgbhpghgohggcaa
open Go.RowKit Go.ChangeShapes Go.WideShapes Go.ChangeAt

def Reads {α : Type} (P : Program) (t : TypeId) (T : Ty α) : Prop := ∀ (H : Type) (enc : TypeId × Value → H) (W : World) (fuel : Nat) (cs : List Value) (x : DataW H × List MemPlace),
  DataW.trod enc P W 0 (fun _ => true) true fuel t cs = some x → ∃ y, T.R W.cell? cs y
theorem reads_int {P : Program} {t : TypeId} (ht : P.underlying t = some (.int .i64)) : Reads P t Ty.int := by
  intro H enc W fuel cs x h
  obtain ⟨n, rfl, _, hw⟩ := DataW.trod_int ht h
  exact ⟨n, rfl, hw⟩
theorem reads_sl {α : Type} {P : Program} {t e : TypeId} {T : Ty α} (hR : Reads P e T) (ht : P.underlying t = some (.slice e)) (hc : P.cellsOf e = T.size) (h0 : 0 < T.size) : Reads P t T.sl := by
  intro H enc W fuel cs x h
  rcases Deep.open_slice ht h with ⟨rfl, _⟩ | ⟨a, len, cap, m, n, D, Pl, rfl, _, hl, hm, hmm, hxe, hx⟩
  · exact ⟨[], _, rfl, none, 0, rfl, Nat.le_refl _, Nat.zero_le _, fun _ => rfl, fun i x e => by simp at e⟩
  · simp only [if_true] at hmm
    subst m
    have h2 : ∀ i, i < len → ∃ (p : List Value × α), T.R W.cell? p.1 p.2 ∧ W.cells? 0 (a.add (i * T.size)) T.size = some p.1 := by
      intro i hi
      obtain ⟨cs', h1, h2⟩ := hx i (by omega)
      obtain ⟨y, hy⟩ := hR H enc W n cs' _ h2
      rw [hc] at h1
      exact ⟨(cs', y), hy, h1⟩
    have h3 : ∃ l : List α, l.length = len ∧ ∀ i y, l[i]? = some y → ∃ cs', T.R W.cell? cs' y ∧ W.cells? 0 (a.add (i * T.size)) T.size = some cs' := by
      clear hx hl h hxe
      induction len with
      | zero => exact ⟨[], rfl, by simp⟩
      | succ len ih =>
        obtain ⟨l, hl, hi⟩ := ih (by intro i hi; exact h2 i (by omega))
        obtain ⟨⟨cs', y⟩, hy, h1⟩ := h2 len (by omega)
        refine ⟨l ++ [y], by simp [hl], fun i z hz => ?_⟩
        rcases Nat.lt_or_ge i l.length with hlt | hge
        · rw [List.getElem?_append_left hlt] at hz; exact hi i z hz
        · have hb := (List.getElem?_eq_some_iff.1 hz).1
          simp at hb
          obtain rfl : i = len := by omega
          rw [List.getElem?_append_right hge, hl] at hz
          simp at hz
          subst hz
          exact ⟨cs', hy, h1⟩
    obtain ⟨l, hlen, hl2⟩ := h3
    refine ⟨l, _, rfl, some a, cap, by rw [hlen], by omega, hm, by simp, fun i y hy => ?_⟩
    obtain ⟨cs', hR', hcs⟩ := hl2 i y hy
    obtain ⟨_, hlen', hat⟩ := World.cells?_some hcs
    have hpos : 0 < l.length := by have := (List.getElem?_eq_some_iff.1 hy).1; omega
    obtain ⟨cs0, _, hcs0⟩ := hl2 0 l[0] (List.getElem?_eq_getElem hpos)
    obtain ⟨_, hlen0, hat0⟩ := World.cells?_some hcs0
    have hfirst := hat0 0 h0
    rw [List.getElem?_eq_getElem (by omega)] at hfirst
    have hsp := World.cell?_spot hfirst
    obtain ⟨b, o, s⟩ := a
    have hs : s = none := by simpa [Addr.add] using hsp
    subst hs
    refine ⟨b, o, cs', rfl, hR', fun j u hu => ?_⟩
    have hj : j < T.size := by rw [← hlen']; exact (List.getElem?_eq_some_iff.1 hu).1
    have := hat j hj
    rw [Addr.add_lit, Addr.add_lit, hu] at this
    exact this
/-- a struct's fields: type, place, cells -/
def structOf (P : Program) (t : TypeId) : Option (List (TypeId × Nat × Nat)) :=
  match P.underlying t with
  | some (.struct fs) => some (fs.toList.map fun f => (f.type, f.offset, P.cellsOf f.type))
  | _ => none
theorem struct_fields {P : Program} {t : TypeId} {fs' : List (TypeId × Nat × Nat)} (hs : structOf P t = some fs') {H : Type} {enc : TypeId × Value → H} {W : World} {fuel : Nat} {cs : List Value} {x : DataW H × List MemPlace}
    (h : DataW.trod enc P W 0 (fun _ => true) true fuel t cs = some x) : cs.length = P.cellsOf t ∧ ∀ (i : Nat) (f : TypeId × Nat × Nat), fs'[i]? = some f → ∃ n y, DataW.trod enc P W 0 (fun _ => true) true n f.1 ((cs.drop f.2.1).take f.2.2) = some y := by
  unfold structOf at hs
  split at hs
  · rename_i fs hu
    obtain rfl := Option.some.inj hs
    obtain ⟨xs, n, _, _, hl, hlen, hf⟩ := DataW.trod_struct hu h
    refine ⟨hl, fun i f hi => ?_⟩
    rw [List.getElem?_map] at hi
    cases hfi : fs.toList[i]? with
    | none => rw [hfi] at hi; cases hi
    | some fd =>
      rw [hfi] at hi
      obtain rfl := Option.some.inj hi
      have hfi' : fs[i]? = some fd := by simpa using hfi
      have hlt : i < xs.length := by rw [hlen]; exact (Array.getElem?_eq_some_iff.1 hfi').1
      have := hf i fd hfi'
      rw [List.getElem?_eq_getElem hlt] at this
      exact ⟨n, _, this⟩
  · cases hs
theorem reads_pt : Reads Try.prog 32 Ty.pt := by
  intro H enc W fuel cs x h
  obtain ⟨hl, hf⟩ := struct_fields (fs' := [(3, 0, 1), (3, 1, 1), (3, 2, 1)]) (by kernel_rfl) h
  rw [show (Try.prog).cellsOf 32 = 3 by kernel_rfl] at hl
  match cs, hl with
  | [a, b, c], _ =>
    obtain ⟨_, _, h0⟩ := hf 0 _ rfl
    obtain ⟨_, _, h1⟩ := hf 1 _ rfl
    obtain ⟨_, _, h2⟩ := hf 2 _ rfl
    obtain ⟨x0, e0, w0⟩ := reads_int (by kernel_rfl) _ _ _ _ _ _ h0
    obtain ⟨x1, e1, w1⟩ := reads_int (by kernel_rfl) _ _ _ _ _ _ h1
    obtain ⟨x2, e2, w2⟩ := reads_int (by kernel_rfl) _ _ _ _ _ _ h2
    refine ⟨⟨x0, x1, x2⟩, ?_, w0, w1, w2⟩
    simp at e0 e1 e2
    subst e0 e1 e2
    rfl
theorem reads_pts : Reads Try.prog 23 Ty.pts := reads_sl reads_pt (by kernel_rfl) (by kernel_rfl) (by decide)
theorem reads_ints : Reads Try.prog 27 (Ty.sl Ty.int) := reads_sl (reads_int (t := 3) (by kernel_rfl)) (by kernel_rfl) (by kernel_rfl) (by decide)
theorem reads_rc : Reads Try.prog 48 Ty.rc := by
  intro H enc W fuel cs x h
  obtain ⟨hl, hf⟩ := struct_fields (fs' := [(3, 0, 1), (3, 1, 1), (23, 2, 1)]) (by kernel_rfl) h
  rw [show (Try.prog).cellsOf 48 = 3 by kernel_rfl] at hl
  match cs, hl with
  | [a, b, c], _ =>
    obtain ⟨_, _, h0⟩ := hf 0 _ rfl
    obtain ⟨_, _, h1⟩ := hf 1 _ rfl
    obtain ⟨_, _, h2⟩ := hf 2 _ rfl
    obtain ⟨x0, e0, w0⟩ := reads_int (by kernel_rfl) _ _ _ _ _ _ h0
    obtain ⟨x1, e1, w1⟩ := reads_int (by kernel_rfl) _ _ _ _ _ _ h1
    obtain ⟨x2, v2, e2, w2⟩ := reads_pts _ _ _ _ _ _ h2
    refine ⟨⟨x0, x1, x2⟩, v2, ?_, w0, w1, w2⟩
    simp at e0 e1 e2
    subst e0 e1 e2
    rfl
theorem reads_rcs : Reads Try.prog 22 (Ty.sl Ty.rc) := reads_sl reads_rc (by kernel_rfl) (by kernel_rfl) (by decide)
theorem reads_rd : Reads Try.prog 45 Ty.rd := by
  intro H enc W fuel cs x h
  obtain ⟨hl, hf⟩ := struct_fields (fs' := [(3, 0, 1), (23, 1, 1)]) (by kernel_rfl) h
  rw [show (Try.prog).cellsOf 45 = 2 by kernel_rfl] at hl
  match cs, hl with
  | [a, b], _ =>
    obtain ⟨_, _, h0⟩ := hf 0 _ rfl
    obtain ⟨_, _, h1⟩ := hf 1 _ rfl
    obtain ⟨x0, e0, w0⟩ := reads_int (by kernel_rfl) _ _ _ _ _ _ h0
    obtain ⟨x2, v2, e2, w2⟩ := reads_pts _ _ _ _ _ _ h1
    refine ⟨⟨x0, x2⟩, v2, ?_, w0, w2⟩
    simp at e0 e2
    subst e0 e2
    rfl
theorem reads_ms : Reads Try.prog 39 Ty.ms := by
  intro H enc W fuel cs x h
  obtain ⟨hl, hf⟩ := struct_fields (fs' := [(3, 0, 1), (3, 1, 1), (3, 2, 1), (23, 3, 1)]) (by kernel_rfl) h
  rw [show (Try.prog).cellsOf 39 = 4 by kernel_rfl] at hl
  match cs, hl with
  | [a, b, c, d], _ =>
    obtain ⟨_, _, h0⟩ := hf 0 _ rfl
    obtain ⟨_, _, h1⟩ := hf 1 _ rfl
    obtain ⟨_, _, h2⟩ := hf 2 _ rfl
    obtain ⟨_, _, h3⟩ := hf 3 _ rfl
    obtain ⟨x0, e0, w0⟩ := reads_int (by kernel_rfl) _ _ _ _ _ _ h0
    obtain ⟨x1, e1, w1⟩ := reads_int (by kernel_rfl) _ _ _ _ _ _ h1
    obtain ⟨x2, e2, w2⟩ := reads_int (by kernel_rfl) _ _ _ _ _ _ h2
    obtain ⟨x3, v3, e3, w3⟩ := reads_pts _ _ _ _ _ _ h3
    refine ⟨⟨x0, x1, x2, x3⟩, v3, ?_, w0, w1, w2, w3⟩
    simp at e0 e1 e2 e3
    subst e0 e1 e2 e3
    rfl
theorem reads_mss : Reads Try.prog 36 (Ty.sl Ty.ms) := reads_sl reads_ms (by kernel_rfl) (by kernel_rfl) (by decide)
/-- an argument that is a slice -/
theorem arg_sl {α : Type} {P : Program} {t e : TypeId} {T : Ty α} (hR : Reads P t T.sl) (ht : P.underlying t = some (.slice e)) {H : Type} {enc : TypeId × Value → H} {W : World} {r : Reach} {b : Nat} {v : Value} {d : DataW H} {p : List MemPlace}
    (hval : Value.okWide P W r b t v) (h : DataW.Trod enc P W 0 (fun _ => true) true t v d p) : ∃ l, Sl T W.cell? v l := by
  obtain ⟨a, len, cap, rfl⟩ := okWide_slice ht hval
  obtain ⟨fuel, hf⟩ := h
  obtain ⟨l, v, e, hv⟩ := hR _ _ _ _ _ _ hf
  simp [Value.cells] at e
  subst e
  exact ⟨l, hv⟩
theorem own : ownKnob (Try.prog).godebug = none := by kernel_rfl
theorem laidOut : laidOutB Try.prog = true := by kernel_rfl
end Go.Proofs.Ytgbhpghgohggcaa

/- More readings of the form's arguments; how large they are. -/
namespace Go.Proofs.Ytgbhpghgohggcaa
open Go.RowKit Go.ChangeShapes Go.WideShapes Go.ChangeAt
theorem sl_len {α : Type} {T : Ty α} {c : CM} {a : Option Addr} {n cap : Nat} {l : List α} (h : Sl T c (.slice a n cap) l) : l.length = n := by
  obtain ⟨a', cap', he, _⟩ := h
  simp only [Value.slice.injEq] at he
  exact he.2.1.symm
/-- an argument that is a slice: it takes no more bytes than a process has -/
theorem arg_size {α : Type} {P : Program} {t e : TypeId} {T : Ty α} {k : Nat} (ht : P.underlying t = some (.slice e)) (hb : P.bytesOf e = k) {H : Type} {enc : TypeId × Value → H} {W : World} {r : Reach} {b : Nat} {v : Value} {d : DataW H} {p : List MemPlace} {ts : List TypeId} {ds : List (DataW H)} {j : Nat}
    (hsz : (DataW.weightsEach P ts ds).all (· ≤ reachBytes) = true) (hj : ts[j]? = some t) (hd : ds[j]? = some d)
    (hval : Value.okWide P W r b t v) (h : DataW.Trod enc P W 0 (fun _ => true) true t v d p) {l : List α} (hl : Sl T W.cell? v l) : l.length * k ≤ 140737488351232 := by
  obtain ⟨a, len, cap, rfl⟩ := okWide_slice ht hval
  obtain ⟨fuel, hf⟩ := h
  have hll := sl_len hl
  rcases Deep.open_slice ht hf with ⟨he, _⟩ | ⟨a', len', cap', m, n, D, Pl, he, _, hlc, _, hmm, hxe, _⟩
  · simp [Value.cells] at he
    rw [hll, he.2.1]; simp
  · simp [Value.cells] at he
    obtain ⟨_, rfl, rfl⟩ := he
    obtain rfl : d = .slice ((List.range len).map D) ((List.range (m - len)).map fun j => D (len + j)) := by simpa using congrArg Prod.fst hxe
    have := sized_slice hsz hj hd ht
    rw [hb, List.length_map, List.length_range] at this
    rw [hll]
    have h2 : len * k ≤ (len + ((List.range (m - len)).map fun j => D (len + j)).length) * k := Nat.mul_le_mul_right _ (Nat.le_add_right _ _)
    have h3 : reachBytes = 140737488351232 := rfl
    omega
/-- an argument that is a struct by value -/
theorem arg_of {α : Type} {P : Program} {t : TypeId} {fs : Array Field} {T : Ty α} (hR : Reads P t T) (ht : P.underlying t = some (.struct fs)) {H : Type} {enc : TypeId × Value → H} {W : World} {r : Reach} {b : Nat} {v : Value} {d : DataW H} {p : List MemPlace}
    (hval : Value.okWide P W r b t v) (h : DataW.Trod enc P W 0 (fun _ => true) true t v d p) : ∃ x, Of T W.cell? v x := by
  obtain ⟨cs, rfl, _⟩ := okWide_struct ht hval
  obtain ⟨fuel, hf⟩ := h
  obtain ⟨x, hx⟩ := hR _ _ _ _ _ _ hf
  exact ⟨x, cs.toList, rfl, hx⟩
theorem reads_st : Reads Try.prog 164 Ty.st := by
  intro H enc W fuel cs x h
  obtain ⟨hl, hf⟩ := struct_fields (fs' := [(3, 0, 1), (3, 1, 1), (23, 2, 1)]) (by kernel_rfl) h
  rw [show (Try.prog).cellsOf 164 = 3 by kernel_rfl] at hl
  match cs, hl with
  | [a, b, c], _ =>
    obtain ⟨_, _, h0⟩ := hf 0 _ rfl
    obtain ⟨_, _, h1⟩ := hf 1 _ rfl
    obtain ⟨_, _, h2⟩ := hf 2 _ rfl
    obtain ⟨x0, e0, w0⟩ := reads_int (by kernel_rfl) _ _ _ _ _ _ h0
    obtain ⟨x1, e1, w1⟩ := reads_int (by kernel_rfl) _ _ _ _ _ _ h1
    obtain ⟨x2, v2, e2, w2⟩ := reads_pts _ _ _ _ _ _ h2
    refine ⟨⟨x0, x1, x2⟩, v2, ?_, w0, w1, w2⟩
    simp at e0 e1 e2
    subst e0 e1 e2
    rfl
theorem reads_sts : Reads Try.prog 90 (Ty.sl Ty.st) := reads_sl reads_st (by kernel_rfl) (by kernel_rfl) (by decide)
theorem reads_rds : Reads Try.prog 26 (Ty.sl Ty.rd) := reads_sl reads_rd (by kernel_rfl) (by kernel_rfl) (by decide)
theorem reads_byte : Reads Try.prog 5 Ty.byte := by
  intro H enc W fuel cs x h
  obtain ⟨n, rfl, _, hw⟩ := DataW.trod_int (k := .u8) (by kernel_rfl) h
  have hw2 : 0 ≤ n ∧ n < 256 := by
    have h2 : (Lit.int .u8 n).wf = true := hw
    have h3 : IntKind.u8.min ≤ n ∧ n ≤ IntKind.u8.max := by simpa [Lit.wf] using h2
    have h4 : IntKind.u8.min = 0 := by decide
    have h5 : IntKind.u8.max = 255 := by decide
    omega
  refine ⟨UInt8.ofNat n.toNat, ?_⟩
  show [Value.int .u8 n] = byteCell _
  unfold byteCell
  have : ((UInt8.ofNat n.toNat).toNat : Int) = n := by
    rw [UInt8.toNat_ofNat']
    omega
  rw [this]
theorem reads_bts : Reads Try.prog 69 Ty.bts := reads_sl reads_byte (by kernel_rfl) (by kernel_rfl) (by decide)
theorem reads_nets : Reads Try.prog 79 (Ty.sl Ty.bts) := reads_sl reads_bts (by kernel_rfl) (by kernel_rfl) (by decide)
end Go.Proofs.Ytgbhpghgohggcaa

/- Readings of the form's arguments that are arrays of ints. -/
namespace Go.Proofs.Ytgbhpghgohggcaa
open Go.RowKit Go.ChangeShapes Go.WideShapes Go.ChangeAt
theorem okWide_arr {P : Program} {t e : TypeId} {n : Nat} {w : World} {r : Reach} {b : Nat} {v : Value} (ht : P.underlying t = some (.array n e)) (h : Value.okWide P w r b t v) : ∃ cs, v = .agg cs ∧ cs.size = P.cellsOf t := by
  simp only [Value.okWide, ht] at h
  obtain ⟨cs, h1, h2, _⟩ := h
  exact ⟨cs, h1, h2⟩
/-- an argument that is an array by value -/
theorem arg_arr {α : Type} {P : Program} {t e : TypeId} {n : Nat} {T : Ty α} (hR : Reads P t T) (ht : P.underlying t = some (.array n e)) {H : Type} {enc : TypeId × Value → H} {W : World} {r : Reach} {b : Nat} {v : Value} {d : DataW H} {p : List MemPlace}
    (hval : Value.okWide P W r b t v) (h : DataW.Trod enc P W 0 (fun _ => true) true t v d p) : ∃ x, Of T W.cell? v x := by
  obtain ⟨cs, rfl, _⟩ := okWide_arr ht hval
  obtain ⟨fuel, hf⟩ := h
  obtain ⟨x, hx⟩ := hR _ _ _ _ _ _ hf
  exact ⟨x, cs.toList, rfl, hx⟩
theorem reads_sm : Reads Try.prog 25 Ty.sm := by
  intro H enc W fuel cs x h
  obtain ⟨xs, m, _, _, hl, hx, hf⟩ := DataW.trod_array (n := 4) (e := 3) (by kernel_rfl) h
  rw [show (Try.prog).cellsOf 25 = 4 by kernel_rfl] at hl
  rw [show (Try.prog).cellsOf 3 = 1 by kernel_rfl] at hf
  match cs, hl with
  | [a, b, c, d], _ =>
    have g : ∀ i, i < 4 → ∃ y, DataW.trod enc Try.prog W 0 (fun _ => true) true m 3 (([a, b, c, d].drop (i * 1)).take 1) = some y := fun i hi => by
      rw [hf i hi]; exact ⟨xs[i]'(by omega), List.getElem?_eq_getElem (by omega)⟩
    obtain ⟨_, h0⟩ := g 0 (by decide)
    obtain ⟨_, h1⟩ := g 1 (by decide)
    obtain ⟨_, h2⟩ := g 2 (by decide)
    obtain ⟨_, h3⟩ := g 3 (by decide)
    obtain ⟨x0, e0, w0⟩ := reads_int (by kernel_rfl) _ _ _ _ _ _ h0
    obtain ⟨x1, e1, w1⟩ := reads_int (by kernel_rfl) _ _ _ _ _ _ h1
    obtain ⟨x2, e2, w2⟩ := reads_int (by kernel_rfl) _ _ _ _ _ _ h2
    obtain ⟨x3, e3, w3⟩ := reads_int (by kernel_rfl) _ _ _ _ _ _ h3
    refine ⟨⟨x0, x1, x2, x3⟩, ?_, w0, w1, w2, w3⟩
    simp at e0 e1 e2 e3
    subst e0 e1 e2 e3
    rfl
theorem reads_sms : Reads Try.prog 98 (Ty.sl Ty.sm) := reads_sl reads_sm (by kernel_rfl) (by kernel_rfl) (by decide)
end Go.Proofs.Ytgbhpghgohggcaa
