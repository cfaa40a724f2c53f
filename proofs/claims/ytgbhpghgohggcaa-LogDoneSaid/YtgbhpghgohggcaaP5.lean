/- Walks: WrongParts of the reference. -/
import Derived.Test.YtgbhpghgohggcaaMap
import Derived.Test.YtgbhpghgohggcaaP4
namespace Go.Proofs.Ytgbhpghgohggcaa
open Go.RowKit

def badPt (p : Pt) (h : Int) : Bool := decide (p.h < 0 ∨ h ≤ p.h ∨ p.k < 0 ∨ 3 < p.k ∨ 1048576 < p.n ∨ p.n < -1048576)
/-- what is wrong with parts, behind those that were there before -/
def wrongGo (h : Int) : List (Int × Int) → List Pt → Int
  | _, [] => 0
  | had, p :: l => if badPt p h = true then 3 else if (p.h, p.k) ∈ had then 4 else wrongGo h ((p.h, p.k) :: had) l
def wrongE (l : List Pt) (h : Int) : Int := if l.length = 0 ∨ 4 < l.length then 5 else wrongGo h [] l
theorem wrongGo_congr (h : Int) : ∀ (l : List Pt) (a b : List (Int × Int)), (∀ x, x ∈ a ↔ x ∈ b) → wrongGo h a l = wrongGo h b l
  | [], _, _, _ => rfl
  | p :: l, a, b, hab => by
    simp only [wrongGo, hab]
    rw [wrongGo_congr h l ((p.h, p.k) :: a) ((p.h, p.k) :: b) (fun x => by simp [hab])]
theorem ways_pt (p : Pt) (h : Int) : (p.h < 0) ∨ (0 ≤ p.h ∧ h ≤ p.h) ∨ (0 ≤ p.h ∧ p.h < h ∧ p.k < 0) ∨ (0 ≤ p.h ∧ p.h < h ∧ 0 ≤ p.k ∧ 3 < p.k) ∨ (0 ≤ p.h ∧ p.h < h ∧ 0 ≤ p.k ∧ p.k ≤ 3 ∧ 1048576 < p.n) ∨ (0 ≤ p.h ∧ p.h < h ∧ 0 ≤ p.k ∧ p.k ≤ 3 ∧ p.n ≤ 1048576 ∧ p.n < -1048576) ∨ (0 ≤ p.h ∧ p.h < h ∧ 0 ≤ p.k ∧ p.k ≤ 3 ∧ p.n ≤ 1048576 ∧ -1048576 ≤ p.n) := by omega

set_option maxRecDepth 100000 in
set_option maxHeartbeats 1000000 in
theorem ref_wrongParts {v : Value} {l : List Pt} {h : Int} (w : World) (hv : Pts w.cell? v l) :
    Calls Try.prog 79 #[v, .int .i64 h] w fun e w' => e = .returned (.int .i64 (wrongE l h)) ∧ Grow w w' := by
  obtain ⟨a, cap, rfl, h1, h2, -, hel⟩ := hv
  unfold maxLen at h2
  have hzb : ∀ w, (zeroValue 4).run Try.prog w = .ok (.bool false) w := fun w => by kernel_rfl
  by_cases hl0 : l.length = 0
  · have hE : wrongE l h = 5 := by simp [wrongE, hl0]
    have HE := Lib.hid hE
    have t0 : ((l.length : Int) == 0) = true := by simp [hl0]
    clear hel hE hl0 hzb
    go_enter Try.func79, Try.ntmps79
    go_wp2
    go_ret
    exact ⟨ret_int HE.out.symm, Grow.refl _⟩
  have t0 : ((l.length : Int) == 0) = false := by rw [beq_eq_false_iff_ne]; omega
  by_cases hl4 : 4 < l.length
  · have hE : wrongE l h = 5 := by rw [wrongE, if_pos (.inr hl4)]
    have HE := Lib.hid hE
    clear hel hE hl0 hzb
    go_enter Try.func79, Try.ntmps79
    go_wp2
    go_ret
    exact ⟨ret_int HE.out.symm, Grow.refl _⟩
  have hE : wrongE l h = wrongGo h [] l := by rw [wrongE, if_neg (by omega)]
  have HE := Lib.hid hE
  clear hE hl0
  have hmm := @run_makeMap Try.prog
  go_enter Try.func79, Try.ntmps79
  go_wp2
  go_loopw [4, 19] (fun _ i wr => ∃ (k : Nat) (ks : List (Int × Int)), k ≤ l.length ∧ i = .int .i64 k ∧ Grow w wr ∧ MapIs encPair wr w.heap.size (setKv ks) ∧ wrongE l h = wrongGo h ks (l.drop k)) (fun _ i _ => l.length - (intOf i).toNat)
  case atStart => exact ⟨0, [], by omega, rfl, (by repeat (first | with_reducible assumption | with_reducible exact Grow.refl _ | with_reducible apply Grow.drewN | with_reducible apply Grow.drew | with_reducible apply Grow.alloc | (refine Grow.setCell ?_ (by simp; done) _))), MapIs.new w, HE.out⟩
  case round =>
    obtain ⟨k, ks, hk', rfl, hb, hmap, hE⟩ := hrel
    have HM := Lib.hid hmap
    by_cases hlt : k < l.length
    · obtain ⟨b, o, rfl, c0, c1, c2, -, -, -⟩ := Pts.at_ hel k hlt
      replace c0 := hb.sub _ _ c0
      replace c1 := hb.sub _ _ c1
      replace c2 := hb.sub _ _ c2
      rw [List.drop_eq_getElem_cons hlt, wrongGo] at hE
      have hw := ways_pt l[k] h
      have hbad : ∀ b, decide (l[k].h < 0 ∨ h ≤ l[k].h ∨ l[k].k < 0 ∨ 3 < l[k].k ∨ 1048576 < l[k].n ∨ l[k].n < -1048576) = b → badPt l[k] h = b := fun b hb => hb
      have HB := Lib.hid hbad
      have HE2 := Lib.hid hE
      clear hel hE hmap hbad HE
      generalize hp : l[k] = p at *
      obtain ⟨ph, pk, pn⟩ := p
      clear hp
      simp only at hw c0 c1 c2
      rcases hw with hw | ⟨w1, hw⟩ | ⟨w1, w2, hw⟩ | ⟨w1, w2, w3, hw⟩ | ⟨w1, w2, w3, w4, hw⟩ | ⟨w1, w2, w3, w4, w5, hw⟩ | ⟨w1, w2, w3, w4, w5, hw⟩
      iterate 6 (· go_wp2
                   go_ret
                   exact ⟨ret_int (by rw [HE2.out, if_pos (HB.out true (by simp only [decide_eq_true_eq]; omega))]), (by repeat (first | with_reducible assumption | with_reducible exact Grow.refl _ | with_reducible apply Grow.drewN | with_reducible apply Grow.drew | with_reducible apply Grow.alloc | (refine Grow.setCell ?_ (by simp; done) _)))⟩)
      have hnb := HB.out false (by simp only [decide_eq_false_iff_not]; omega)
      have hE3 := HE2.out
      rw [if_neg (by rw [hnb]; exact Bool.false_ne_true)] at hE3
      have HE3 := Lib.hid hE3
      clear hE3 hnb HB HE2
      by_cases hin : (ph, pk) ∈ ks
      · have HI := Lib.hid hin
        have HG := Lib.hid (mget_in hin)
        clear hin
        go_wp2_with (at_lookup; refine wp_lookup keyPair Try.underlying168 hzb rfl _ _ rfl (HM.out.grown (grownBy_of_grow ((Grow.refl _).alloc _) none) (by simp)) (ph, pk) rfl rfl ?_; rw [HG.out])
        go_ret
        exact ⟨ret_int (by rw [HE3.out, if_pos HI.out]), (by repeat (first | with_reducible assumption | with_reducible exact Grow.refl _ | with_reducible apply Grow.drewN | with_reducible apply Grow.drew | with_reducible apply Grow.alloc | (refine Grow.setCell ?_ (by simp; done) _)))⟩
      · have HI := Lib.hid hin
        have HG := Lib.hid (mget_out hin)
        clear hin
        go_wp2_with (first | (at_lookup; refine wp_lookup keyPair Try.underlying168 hzb rfl _ _ rfl (HM.out.grown (grownBy_of_grow ((Grow.refl _).alloc _) none) (by simp)) (ph, pk) rfl rfl ?_; rw [HG.out]) | (at_mapUpdate; refine wp_put keyPair Try.underlying168 rfl _ _ _ rfl (HM.out.grown (grownBy_of_grow ((Grow.refl _).alloc _) none) (by simp)) (ph, pk) (.bool true) rfl rfl rfl ?_; intro w' hm' hg'; have HM' := Lib.hid hm'; have HG' := Lib.hid hg'; clear hm' hg'))
        obtain ⟨ks', hks, hmem⟩ := mput_set ks (ph, pk)
        have hm' := HM'.out
        rw [hks] at hm'
        go_roundw
        case rel => exact ⟨k + 1, ks', by omega, by go_num, (hb.alloc _).grown HG'.out (by simp), hm', by rw [HE3.out, if_neg HI.out]; exact wrongGo_congr h _ _ _ fun x => by rw [hmem, List.mem_cons, or_comm]⟩
        case measure => simp [intOf]; omega
    · go_wp2
      go_ret
      refine ⟨ret_int ?_, hb⟩
      rw [hE, List.drop_of_length_le (by omega)]
      rfl
end Go.Proofs.Ytgbhpghgohggcaa
