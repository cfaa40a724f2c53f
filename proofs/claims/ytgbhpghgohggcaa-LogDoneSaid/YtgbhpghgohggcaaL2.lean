/- Walks: Who, Free. -/
import Derived.Test.YtgbhpghgohggcaaL1
import Derived.Test.YtgbhpghgohggcaaIdx
namespace Go.Proofs.Ytgbhpghgohggcaa
open Go.RowKit

def hasKey (key : Int) (r : Rd) : Bool := r.parts.any fun p => p.k == key
def whoE (l : List Rd) (key : Int) : Int := match l.find? (hasKey key) with | some r => r.deed | none => -1
theorem who_step {l : List Rd} {k : Nat} {key : Int} (hlt : k < l.length) (h : ∀ r ∈ l.take k, hasKey key r = false) : (hasKey key l[k] = true → whoE l key = l[k].deed) ∧ (hasKey key l[k] = false → ∀ r ∈ l.take (k + 1), hasKey key r = false) := by
  constructor
  · intro hq
    have : l.find? (hasKey key) = some l[k] := by
      rw [List.find?_eq_some_iff_getElem]
      exact ⟨hq, k, hlt, rfl, fun j hj => by simpa using h l[j] (by rw [List.mem_take_iff_getElem]; exact ⟨j, by omega, rfl⟩)⟩
    rw [whoE, this]
  · intro hq r hr
    rw [List.take_succ_eq_append_getElem hlt] at hr
    rcases List.mem_append.1 hr with h' | h'
    · exact h r h'
    · simp at h'; subst h'; exact hq
theorem who_none {l : List Rd} {key : Int} (h : ∀ r ∈ l, hasKey key r = false) : whoE l key = -1 := by
  have : l.find? (hasKey key) = none := by rw [List.find?_eq_none]; intro x hx; simp [h x hx]
  rw [whoE, this]

set_option maxRecDepth 100000 in
set_option maxHeartbeats 1000000 in
theorem ref_who {v : Value} {h : Hs} {key : Int} (w : World) (hv : Of Ty.hs w.cell? v h) :
    Calls Try.prog 30 #[v, .int .i64 key] w fun e w' => e = .returned (.int .i64 (whoE h.ready key)) ∧ Grow w w' := by
  obtain ⟨cs, rfl, vl, vr, vd, rfl, hl, -, -, -, -, hr, hd⟩ := hv
  obtain ⟨al, cl, rfl, -⟩ := id hl
  obtain ⟨ad, cd, rfl, -⟩ := id hd
  obtain ⟨a, cap, rfl, h1, h2, -, hel⟩ := hr
  unfold maxLen at h2
  go_enter Try.func30, Try.ntmps30
  go_wp2
  go_loopw [4, 6, 8, 12, 18, 19] (fun _ _ _ i _ _ wr => ∃ k : Nat, k ≤ h.ready.length ∧ i = .int .i64 k ∧ Grow w wr ∧ ∀ r ∈ h.ready.take k, hasKey key r = false) (fun _ _ _ i _ _ _ => h.ready.length - (intOf i).toNat)
  case atStart => exact ⟨0, by omega, rfl, (by repeat (first | with_reducible assumption | with_reducible exact Grow.refl _ | with_reducible apply Grow.drewN | with_reducible apply Grow.drew | with_reducible apply Grow.alloc | (refine Grow.setCell ?_ (by simp; done) _))), by simp⟩
  case round =>
    obtain ⟨k, hk', rfl, hb, hE⟩ := hrel
    by_cases hlt : k < h.ready.length
    · obtain ⟨b, o, vp, rfl, c0, c1, -, hP⟩ := Rds.at_ hel k hlt
      obtain ⟨ap, cp, rfl, hp1, hp2, hp0, hpel⟩ := id hP
      replace c0 := hb.sub _ _ c0
      replace c1 := hb.sub _ _ c1
      obtain ⟨s1, s2⟩ := who_step hlt hE
      have H1 := Lib.hid s1
      have H2 := Lib.hid s2
      have hcl : h.ready[k].parts.length ≤ 9223372036854775807 := by unfold maxLen at hp2; omega
      clear hel hP hE s1 s2 hp1 hp2 hp0
      generalize h.ready[k] = r at *
      obtain ⟨wo, rfl⟩ : ∃ wo : World, wo = wr := ⟨_, rfl⟩
      go_wp2
      go_loopw [4, 8, 19] (fun _ _ i wx => ∃ m : Nat, m ≤ r.parts.length ∧ i = .int .i64 m ∧ Grow (wo.alloc (.cells #[.int .i64 r.deed, .slice ap r.parts.length cp] 45)) wx ∧ ∀ p ∈ r.parts.take m, (p.k == key) = false) (fun _ _ i _ => r.parts.length - (intOf i).toNat)
      case atStart => exact ⟨0, by omega, rfl, Grow.refl _, by simp⟩
      case round =>
        obtain ⟨m, hm', rfl, hbx, hF⟩ := hrel
        have HF := Lib.hid hF
        clear hF
        have hbw := ((hb.alloc (.cells #[.int .i64 r.deed, .slice ap r.parts.length cp] 45)).trans hbx)
        by_cases hlm : m < r.parts.length
        · obtain ⟨b', o', rfl, d0, d1, d2, -, -, -⟩ := Pts.at_ hpel m hlm
          replace d0 := hbw.sub _ _ d0
          replace d1 := hbw.sub _ _ d1
          replace d2 := hbw.sub _ _ d2
          have e0 := hbx.sub ⟨wo.heap.size, 0, none⟩ _ (World.cell?_alloc_new wo _ _ 0)
          simp at e0
          have hyes : (r.parts[m].k == key) = true → hasKey key r = true := fun h => by rw [hasKey, List.any_eq_true]; exact ⟨_, List.getElem_mem _, h⟩
          have hno : (r.parts[m].k == key) = false → ∀ p ∈ r.parts.take (m + 1), (p.k == key) = false := by
            intro h p hp
            rw [List.take_succ_eq_append_getElem hlm] at hp
            rcases List.mem_append.1 hp with h' | h'
            · exact HF.out p h'
            · simp at h'; subst h'; exact h
          have HY := Lib.hid hyes
          have HN := Lib.hid hno
          have hsz : wo.heap.size < wr.heap.size := by have := hbx.size; simp at this; omega
          clear hpel hyes hno HF
          generalize r.parts[m] = q at *
          cases tk : (q.k == key)
          · have H3 := Lib.hid (HN.out tk)
            clear HN HY
            go_wp2
            go_roundw
            case rel => exact ⟨m + 1, by omega, by go_num, (by repeat (first | with_reducible assumption | with_reducible exact Grow.refl _ | with_reducible apply Grow.drewN | with_reducible apply Grow.drew | with_reducible apply Grow.alloc | (refine Grow.setCell ?_ (by simp; done) _))), H3.out⟩
            case measure => simp [intOf]; omega
          · have H3 := Lib.hid (H1.out (HY.out tk))
            clear HN HY
            go_wp2
            go_ret
            exact ⟨ret_int H3.out.symm, (by repeat (first | with_reducible assumption | with_reducible exact Grow.refl _ | with_reducible apply Grow.drewN | with_reducible apply Grow.drew | with_reducible apply Grow.alloc | (refine Grow.setCell ?_ (by simp; done) _)))⟩
        · have hfin : hasKey key r = false := by
            rw [hasKey, List.any_eq_false]
            intro p hp
            have := HF.out p (by rw [List.take_of_length_le (by omega)]; exact hp)
            simp [this]
          have H3 := Lib.hid (H2.out hfin)
          clear hpel hfin HF
          go_wp2
          go_roundw
          case rel => exact ⟨k + 1, by omega, by go_num, hbw, H3.out⟩
          case measure => simp [intOf]; omega
    · have hn := who_none (l := h.ready) (key := key) (by rw [List.take_of_length_le (by omega)] at hE; exact hE)
      have HN := Lib.hid hn
      clear hel hE hn
      go_wp2
      go_ret
      exact ⟨ret_int HN.out.symm, hb⟩
end Go.Proofs.Ytgbhpghgohggcaa
