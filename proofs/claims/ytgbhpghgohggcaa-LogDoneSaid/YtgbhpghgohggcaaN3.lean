/- Walks: Wrong of the document's answer to chapter 2. -/
import Derived.Test.YtgbhpghgohggcaaN1
namespace Go.Proofs.Ytgbhpghgohggcaa
open Go.RowKit
theorem Of.ms_form {c : CM} {v : Value} {m : Ms} (hv : Of Ty.ms c v m) : ∃ ap cp, v = .agg #[.int .i64 m.kind, .int .i64 m.deed, .int .i64 m.house, .slice ap m.parts.length cp] := by
  obtain ⟨cs, rfl, vp, rfl, -, -, -, hp⟩ := hv
  obtain ⟨ap, cp, rfl, -⟩ := id hp
  exact ⟨_, _, rfl⟩
theorem Of.ms_parts {c : CM} {a b d : Value} {ap : Option Addr} {n cp : Nat} {m : Ms} (hv : Of Ty.ms c (.agg #[a, b, d, .slice ap n cp]) m) : Sl Ty.pt c (.slice ap n cp) m.parts ∧ I64 m.kind ∧ I64 m.deed ∧ I64 m.house := by
  obtain ⟨cs, he, vp, rfl, h1, h2, h3, hp⟩ := hv
  simp at he
  obtain ⟨-, -, -, rfl⟩ := he
  exact ⟨hp, h1, h2, h3⟩
theorem wrong_house {ps : List Pt} {h : Int} {k : Nat} (hlt : k < ps.length) (hE : ∀ p ∈ ps.take k, (p.h == h) = true) :
    ((ps[k].h == h) = true → ∀ p ∈ ps.take (k + 1), (p.h == h) = true) ∧ ((ps[k].h == h) = false → ps.all (fun p => p.h == h) = false) := by
  constructor
  · intro e p hp
    rw [List.take_succ_eq_append_getElem hlt] at hp
    rcases List.mem_append.1 hp with h' | h'
    · exact hE p h'
    · simp at h'; subst h'; exact e
  · intro e
    rw [List.all_eq_false]
    exact ⟨_, List.getElem_mem hlt, by simp [e]⟩
set_option maxRecDepth 100000 in
set_option maxHeartbeats 1000000 in
theorem ref_wrong {v : Value} {m : Ms} (w : World) (hv : Of Ty.ms w.cell? v m) :
    Calls Try.prog 34 #[v] w fun e w' => e = .returned (.int .i64 (wrongM m)) ∧ Grow w w' := by
  obtain ⟨ap, cp, rfl⟩ := hv.ms_form
  obtain ⟨hp, -⟩ := hv.ms_parts
  have HW := Lib.hid (fun (W : World) (hW : Grow w W) => ref_wrongParts (h := 3) W (hp.mono hW.sub))
  have HPL := Lib.hid hp
  clear hv hp
  by_cases h1 : m.kind < 1
  · have HE : Hid (wrongM m = 1) := by show wrongM m = 1; unfold wrongM; rw [if_pos (.inl h1)]
    go_enter Try.func34, Try.ntmps34
    go_wp2
    go_ret
    exact ⟨ret_int HE.out.symm, (by repeat (first | with_reducible assumption | with_reducible exact Grow.refl _ | with_reducible apply Grow.drewN | with_reducible apply Grow.drew | with_reducible apply Grow.alloc | (refine Grow.setCell ?_ (by simp; done) _)))⟩
  by_cases h2 : 7 < m.kind
  · have HE : Hid (wrongM m = 1) := by show wrongM m = 1; unfold wrongM; rw [if_pos (.inr h2)]
    go_enter Try.func34, Try.ntmps34
    go_wp2
    go_ret
    exact ⟨ret_int HE.out.symm, (by repeat (first | with_reducible assumption | with_reducible exact Grow.refl _ | with_reducible apply Grow.drewN | with_reducible apply Grow.drew | with_reducible apply Grow.alloc | (refine Grow.setCell ?_ (by simp; done) _)))⟩
  by_cases h3 : m.deed < 0
  · have HE : Hid (wrongM m = 3) := by show wrongM m = 3; unfold wrongM; rw [if_neg (by omega), if_pos (.inl h3)]
    go_enter Try.func34, Try.ntmps34
    go_wp2
    go_ret
    exact ⟨ret_int HE.out.symm, (by repeat (first | with_reducible assumption | with_reducible exact Grow.refl _ | with_reducible apply Grow.drewN | with_reducible apply Grow.drew | with_reducible apply Grow.alloc | (refine Grow.setCell ?_ (by simp; done) _)))⟩
  by_cases h4 : 1343 < m.deed
  · have HE : Hid (wrongM m = 3) := by show wrongM m = 3; unfold wrongM; rw [if_neg (by omega), if_pos (by omega)]
    go_enter Try.func34, Try.ntmps34
    go_wp2
    go_ret
    exact ⟨ret_int HE.out.symm, (by repeat (first | with_reducible assumption | with_reducible exact Grow.refl _ | with_reducible apply Grow.drewN | with_reducible apply Grow.drew | with_reducible apply Grow.alloc | (refine Grow.setCell ?_ (by simp; done) _)))⟩
  by_cases h5 : m.house < 0
  · have HE : Hid (wrongM m = 3) := by show wrongM m = 3; unfold wrongM; rw [if_neg (by omega), if_pos (by omega)]
    go_enter Try.func34, Try.ntmps34
    go_wp2
    go_ret
    exact ⟨ret_int HE.out.symm, (by repeat (first | with_reducible assumption | with_reducible exact Grow.refl _ | with_reducible apply Grow.drewN | with_reducible apply Grow.drew | with_reducible apply Grow.alloc | (refine Grow.setCell ?_ (by simp; done) _)))⟩
  by_cases h6 : 2 < m.house
  · have HE : Hid (wrongM m = 3) := by show wrongM m = 3; unfold wrongM; rw [if_neg (by omega), if_pos (by omega)]
    go_enter Try.func34, Try.ntmps34
    go_wp2
    go_ret
    exact ⟨ret_int HE.out.symm, (by repeat (first | with_reducible assumption | with_reducible exact Grow.refl _ | with_reducible apply Grow.drewN | with_reducible apply Grow.drew | with_reducible apply Grow.alloc | (refine Grow.setCell ?_ (by simp; done) _)))⟩
  by_cases h7 : 1 < m.kind
  · by_cases h8 : m.parts = []
    · have HE : Hid (wrongM m = 0) := by show wrongM m = 0; unfold wrongM; rw [if_neg (by omega), if_neg (by omega), if_pos h7, if_pos h8]
      have hl : m.parts.length = 0 := by rw [h8]; rfl
      clear h8
      generalize m.parts.length = n at *
      subst hl
      go_enter Try.func34, Try.ntmps34
      go_wp2
      go_ret
      exact ⟨ret_int HE.out.symm, (by repeat (first | with_reducible assumption | with_reducible exact Grow.refl _ | with_reducible apply Grow.drewN | with_reducible apply Grow.drew | with_reducible apply Grow.alloc | (refine Grow.setCell ?_ (by simp; done) _)))⟩
    · have HE : Hid (wrongM m = 5) := by show wrongM m = 5; unfold wrongM; rw [if_neg (by omega), if_neg (by omega), if_pos h7, if_neg h8]
      have hl : 0 < m.parts.length := List.length_pos_iff.2 h8
      have hb : ((m.parts.length : Int) != 0) = true := by rw [bne_iff_ne]; omega
      clear h8
      go_enter Try.func34, Try.ntmps34
      go_wp2
      go_ret
      exact ⟨ret_int HE.out.symm, (by repeat (first | with_reducible assumption | with_reducible exact Grow.refl _ | with_reducible apply Grow.drewN | with_reducible apply Grow.drew | with_reducible apply Grow.alloc | (refine Grow.setCell ?_ (by simp; done) _)))⟩
  have HB : Hid (wrongM m = if wrongE m.parts 3 = 0 then (if m.parts.all (fun p => p.h == m.house) = true then 0 else 3) else wrongE m.parts 3) := by
    show wrongM m = _
    unfold wrongM
    rw [if_neg (by omega), if_neg (by omega), if_neg h7]
  by_cases h8 : wrongE m.parts 3 = 0
  · have hb : (wrongE m.parts 3 != 0) = false := by simp [h8]
    have HE : Hid (wrongM m = (if m.parts.all (fun p => p.h == m.house) = true then 0 else 3)) := by show wrongM m = _; rw [HB.out, if_pos h8]
    clear h8
    generalize wrongE m.parts 3 = we at *
    have hp := HPL.out
    obtain ⟨ap', cp', he, hp1, hp2, -, hel⟩ := hp
    obtain ⟨rfl, rfl⟩ : ap = ap' ∧ cp = cp' := by simpa using he
    unfold maxLen at hp2
    clear he
    go_enter Try.func34, Try.ntmps34
    go_wp2_with fail
    refine (HW.out _ ((Grow.refl _).alloc _)).mono ?_
    rintro e w1 ⟨rfl, hbw1⟩
    (obtain ⟨cw1, fw1⟩ := bcell hbw1; have zw10 : w.heap.size < w1.heap.size := (by have := hbw1.size; (try simp at this); omega); have Gw1 := Lib.hid hbw1; clear hbw1)
    go_wp2
    go_loopw [5, 48] (fun _ i wr => ∃ k : Nat, k ≤ m.parts.length ∧ i = .int .i64 k ∧ Grow w1 wr ∧ ∀ p ∈ m.parts.take k, (p.h == m.house) = true) (fun _ i _ => m.parts.length - (intOf i).toNat)
    case atStart => exact ⟨0, by omega, rfl, Grow.refl _, by simp⟩
    case round =>
      obtain ⟨k, hk', rfl, hb, hE⟩ := hrel
      have hbw := ((Grow.refl w).alloc (.cells #[.int .i64 m.kind, .int .i64 m.deed, .int .i64 m.house, .slice ap m.parts.length cp] 39)).trans (Gw1.out.trans hb)
      have x2 := hb.sub ⟨w.heap.size, 2, none⟩ (.int .i64 m.house) (by rw [cw1 _ _ (by simp), World.cell?_alloc_new]; rfl)
      have xz : w.heap.size < wr.heap.size := by have := hbw.size; have := hb.size; omega
      by_cases hlt : k < m.parts.length
      · obtain ⟨b, o, rfl, c0, c1, c2, -, -, -⟩ := Pts.at_ hel k hlt
        replace c0 := hbw.sub _ _ c0
        replace c1 := hbw.sub _ _ c1
        replace c2 := hbw.sub _ _ c2
        obtain ⟨s1, s2⟩ := wrong_house hlt hE
        have S1 := Lib.hid s1
        have S2 := Lib.hid s2
        clear hel hE s1 s2
        generalize m.parts[k] = p at *
        cases ht : (p.h == m.house)
        · have hne : (p.h != m.house) = true := by simp [bne, ht]
          have S3 := Lib.hid (S2.out ht)
          clear S1 S2
          go_wp2
          go_ret
          refine ⟨ret_int ?_, hbw.trans (by repeat (first | with_reducible assumption | with_reducible exact Grow.refl _ | with_reducible apply Grow.drewN | with_reducible apply Grow.drew | with_reducible apply Grow.alloc | (refine Grow.trans ?_ (by with_reducible assumption))))⟩
          rw [HE.out, S3.out]; rfl
        · have hne : (p.h != m.house) = false := by simp [bne, ht]
          have S3 := Lib.hid (S1.out ht)
          clear S1 S2
          go_wp2
          go_roundw
          case rel => exact ⟨k + 1, by omega, by go_num, (by repeat (first | with_reducible assumption | with_reducible exact Grow.refl _ | with_reducible apply Grow.drewN | with_reducible apply Grow.drew | with_reducible apply Grow.alloc | (refine Grow.setCell ?_ (by simp; done) _))), S3.out⟩
          case measure => simp [intOf]; omega
      · have HF := Lib.hid hE
        clear hel hE
        go_wp2
        go_ret
        refine ⟨ret_int ?_, hbw⟩
        have h9 := HF.out
        rw [List.take_of_length_le (by omega)] at h9
        rw [HE.out, if_pos (List.all_eq_true.2 h9)]
  · have hb : (wrongE m.parts 3 != 0) = true := by simp [h8]
    have HE : Hid (wrongM m = wrongE m.parts 3) := by show wrongM m = _; rw [HB.out, if_neg h8]
    clear h8
    generalize wrongE m.parts 3 = we at *
    go_enter Try.func34, Try.ntmps34
    go_wp2_with fail
    refine (HW.out _ ((Grow.refl _).alloc _)).mono ?_
    rintro e w1 ⟨rfl, hbw1⟩
    (obtain ⟨cw1, fw1⟩ := bcell hbw1; have zw10 : w.heap.size < w1.heap.size := (by have := hbw1.size; (try simp at this); omega); have Gw1 := Lib.hid hbw1; clear hbw1)
    go_wp2
    go_ret
    exact ⟨ret_int HE.out.symm, ((Grow.refl w).alloc _).trans Gw1.out⟩
end Go.Proofs.Ytgbhpghgohggcaa
