/- Walks: Do of the reference. -/
import Derived.Test.YtgbhpghgohggcaaP4
namespace Go.Proofs.Ytgbhpghgohggcaa
open Go.RowKit

def keyFold (x : Int) (l : List Pt) (k : Int) : Int := l.foldl (fun x p => if p.k = k then wrap64 (x + p.n) else x) x
theorem Sm.get_put (s : Sm) {j k : Int} (x : Int) (h0 : 0 ≤ j) (h1 : j < 4) (g0 : 0 ≤ k) (g1 : k < 4) : (s.put k x).get j = if j = k then x else s.get j := by
  have a : j = 0 ∨ j = 1 ∨ j = 2 ∨ j = 3 := by omega
  have b : k = 0 ∨ k = 1 ∨ k = 2 ∨ k = 3 := by omega
  rcases a with rfl | rfl | rfl | rfl <;> rcases b with rfl | rfl | rfl | rfl <;> rfl
theorem Sm.ext_get {s t : Sm} (h : ∀ j : Int, 0 ≤ j → j < 4 → s.get j = t.get j) : s = t := by
  obtain ⟨a, b, c, d⟩ := s
  obtain ⟨a', b', c', d'⟩ := t
  have h0 := h 0 (by omega) (by omega)
  have h1 := h 1 (by omega) (by omega)
  have h2 := h 2 (by omega) (by omega)
  have h3 := h 3 (by omega) (by omega)
  simp [Sm.get, S4] at h0 h1 h2 h3
  simp [h0, h1, h2, h3]
theorem doP_get : ∀ (l : List Pt) (s : Sm), KeysOk l → ∀ j : Int, 0 ≤ j → j < 4 → (doP s l).get j = keyFold (s.get j) l j
  | [], s, _, j, _, _ => rfl
  | p :: l, s, hk, j, h0, h1 => by
    have hp := hk p (by simp)
    show (doP (s.add p.k p.n) l).get j = keyFold (if p.k = j then wrap64 (s.get j + p.n) else s.get j) l j
    rw [doP_get l _ (fun q hq => hk q (by simp [hq])) j h0 h1, Sm.add, Sm.get_put s _ h0 h1 hp.1 hp.2]
    by_cases h : j = p.k
    · simp [h]
    · have : ¬ p.k = j := fun e => h e.symm
      simp [h, this]
theorem Sm.put_get (s : Sm) {k : Int} (h0 : 0 ≤ k) (h1 : k < 4) : s.put k (s.get k) = s :=
  Sm.ext_get fun j a b => by
    rw [Sm.get_put s _ a b h0 h1]; split
    · subst j; rfl
    · rfl
theorem Sm.put_put (s : Sm) {k : Int} (x y : Int) (h0 : 0 ≤ k) (h1 : k < 4) : (s.put k x).put k y = s.put k y :=
  Sm.ext_get fun j a b => by
    rw [Sm.get_put _ _ a b h0 h1, Sm.get_put _ _ a b h0 h1, Sm.get_put _ _ a b h0 h1]; split <;> rfl

set_option maxRecDepth 100000 in
set_option maxHeartbeats 1000000 in
theorem ref_do {v : Value} {l : List Pt} {s : Sm} (w : World) (hv : Pts w.cell? v l) (hk : KeysOk l) :
    Calls Try.prog 89 #[.agg #[.int .i64 s.a, .int .i64 s.b, .int .i64 s.c, .int .i64 s.d], v] w fun e w' => e = .returned (.agg #[.int .i64 (doP s l).a, .int .i64 (doP s l).b, .int .i64 (doP s l).c, .int .i64 (doP s l).d]) ∧ Grow w w' := by
  obtain ⟨a, cap, rfl, h1, h2, -, hel⟩ := hv
  unfold maxLen at h2
  have HDP := Lib.hid (doP_get l s hk)
  clear hk
  go_enter Try.func89, Try.ntmps89
  go_wp2
  go_loopw [5, 7, 8, 12, 13] (fun _ _ i _ _ wr => ∃ (k : Nat) (s' : Sm), k ≤ 4 ∧ i = .int .i64 k ∧ Grow w wr ∧ (∀ j : Nat, j < 4 → s'.get j = if j < k then keyFold (s.get j) l j else s.get j) ∧ wr.heap[w.heap.size]? = some (.cells #[.int .i64 s'.a, .int .i64 s'.b, .int .i64 s'.c, .int .i64 s'.d] 25 (0, 0)) ∧ wr.heap[w.heap.size + 1]? = some (.cells #[.int .i64 0, .int .i64 0, .int .i64 0, .int .i64 0] 25 (0, 0))) (fun _ _ i _ _ _ => 4 - (intOf i).toNat)
  case atStart => exact ⟨0, s, by omega, rfl, (by repeat (first | with_reducible assumption | with_reducible exact Grow.refl _ | with_reducible apply Grow.drewN | with_reducible apply Grow.drew | with_reducible apply Grow.alloc | (refine Grow.setCell ?_ (by simp; done) _))), fun j _ => by simp, heap_later (heap_alloc_new w _) _, by simpa using heap_alloc_new (w.alloc _) _⟩
  case round =>
    obtain ⟨k, s', hk', rfl, hb, hE, hrow, hrow2⟩ := hrel
    have HE := Lib.hid hE
    clear hE
    by_cases hlt : k < 4
    · have HR := Lib.hid hrow
      have HR2 := Lib.hid hrow2
      clear hrow hrow2
      go_wp2
      rw [show decide ((k : Int) < 4) = true by simp; omega]
      go_loopw [7, 13] (fun _ i wx => ∃ (m : Nat) (s2 : Sm), m ≤ l.length ∧ i = .int .i64 m ∧ Grow w wx ∧ s2 = s'.put k (keyFold (s'.get k) (l.take m) k) ∧ wx.heap[w.heap.size]? = some (.cells #[.int .i64 s2.a, .int .i64 s2.b, .int .i64 s2.c, .int .i64 s2.d] 25 (0, 0)) ∧ wx.heap[w.heap.size + 1]? = some (.cells #[.int .i64 0, .int .i64 0, .int .i64 0, .int .i64 0] 25 (0, 0))) (fun _ i _ => l.length - (intOf i).toNat)
      case atStart => exact ⟨0, s', by omega, rfl, (by repeat (first | with_reducible assumption | with_reducible exact Grow.refl _ | with_reducible apply Grow.drewN | with_reducible apply Grow.drew | with_reducible apply Grow.alloc | (refine Grow.setCell ?_ (by simp; done) _))), (Sm.put_get s' (by omega) (by omega)).symm, HR.out, HR2.out⟩
      case round =>
        obtain ⟨m, s2, hm', rfl, hbx, hs2, hrow, hrow2⟩ := hrel
        have HS2 := Lib.hid hs2
        clear hs2
        by_cases hlm : m < l.length
        · obtain ⟨b, o, rfl, c0, c1, c2, -, -, -⟩ := Pts.at_ hel m hlm
          replace c0 := hbx.sub _ _ c0
          replace c1 := hbx.sub _ _ c1
          replace c2 := hbx.sub _ _ c2
          have HR := Lib.hid hrow
          have HR2 := Lib.hid hrow2
          have cs := Sm.row_cell hrow k (by omega) (by omega)
          have cf := Sm.row_free hrow k
          have hsz : w.heap.size < wr.heap.size := (Array.getElem?_eq_some_iff.1 hrow).1
          have hstep : keyFold (s'.get k) (l.take (m + 1)) k = if l[m].k = k then wrap64 (keyFold (s'.get k) (l.take m) k + l[m].n) else keyFold (s'.get k) (l.take m) k := by
            rw [List.take_succ_eq_append_getElem hlm, keyFold, List.foldl_append]; rfl
          have HST := Lib.hid hstep
          have hg2 : s2.get k = keyFold (s'.get k) (l.take m) k := by rw [HS2.out, Sm.get_put _ _ (by omega) (by omega) (by omega) (by omega), if_pos rfl]
          have HG2 := Lib.hid hg2
          clear hel hrow hrow2 hstep hg2
          simp only [Int.toNat_natCast] at cs
          generalize hp : l[m] = p at *
          obtain ⟨ph, pk, pn⟩ := p
          clear hp
          simp only at c0 c1 c2
          generalize hx : s2.get k = x at *
          have HX := Lib.hid hx
          clear hx
          by_cases hkk : pk = (k : Int)
          · have tk : (pk == (k : Int)) = true := by simpa using hkk
            have HK := Lib.hid hkk
            clear hkk
            go_wp2
            go_region
            go_wp2
            go_roundw
            case rel =>
              refine ⟨m + 1, s2.put k (wrap64 (x + pn)), by omega, by go_num, (by repeat (first | with_reducible assumption | with_reducible exact Grow.refl _ | with_reducible apply Grow.drewN | with_reducible apply Grow.drew | with_reducible apply Grow.alloc | (refine Grow.setCell ?_ (by simp; done) _))), ?_, heap_later (Sm.row_set (k := (k : Int)) HR.out _ (by omega) (by omega)) _, heap_later ((Below.heap_setCell _ _ _ _ (by simp)).trans HR2.out) _⟩
              have h := HST.out
              rw [if_pos HK.out] at h
              rw [h, ← HG2.out, HS2.out, Sm.put_put _ _ _ (by omega) (by omega)]
            case measure => simp [intOf]; omega
          · have tk : (pk == (k : Int)) = false := by simpa using hkk
            have HK := Lib.hid hkk
            clear hkk
            go_wp2
            go_roundw
            case rel =>
              refine ⟨m + 1, s2, by omega, by go_num, (by repeat (first | with_reducible assumption | with_reducible exact Grow.refl _ | with_reducible apply Grow.drewN | with_reducible apply Grow.drew | with_reducible apply Grow.alloc | (refine Grow.setCell ?_ (by simp; done) _))), ?_, heap_later HR.out _, heap_later HR2.out _⟩
              have h := HST.out
              rw [if_neg HK.out] at h
              rw [h]; exact HS2.out
            case measure => simp [intOf]; omega
        · have hfin : s2 = s'.put k (keyFold (s'.get k) l k) := by
            have := HS2.out
            rw [List.take_of_length_le (by omega)] at this; exact this
          have HF := Lib.hid hfin
          clear hfin hel
          go_wp2
          go_roundw
          case rel =>
            refine ⟨k + 1, s2, by omega, by go_num, hbx, fun j hj => ?_, hrow, hrow2⟩
            rw [HF.out, Sm.get_put _ _ (by omega) (by omega) (by omega) (by omega)]
            by_cases hjk : j = k
            · subst hjk
              rw [if_pos rfl, if_pos (by omega), HE.out j hj, if_neg (by omega)]
            · rw [if_neg (by omega), HE.out j hj]
              by_cases h : j < k
              · rw [if_pos h, if_pos (by omega)]
              · rw [if_neg h, if_neg (by omega)]
          case measure => simp [intOf]; omega
    · have e0 : wr.cell? ⟨w.heap.size, 0, none⟩ = some (.int .i64 s'.a) := by simp [World.cell?, hrow]
      have e1 : wr.cell? ⟨w.heap.size, 1, none⟩ = some (.int .i64 s'.b) := by simp [World.cell?, hrow]
      have e2 : wr.cell? ⟨w.heap.size, 2, none⟩ = some (.int .i64 s'.c) := by simp [World.cell?, hrow]
      have e3 : wr.cell? ⟨w.heap.size, 3, none⟩ = some (.int .i64 s'.d) := by simp [World.cell?, hrow]
      have z0 : wr.cell? ⟨w.heap.size + 1, 0, none⟩ = some (.int .i64 0) := by simp [World.cell?, hrow2]
      have z1 : wr.cell? ⟨w.heap.size + 1, 1, none⟩ = some (.int .i64 0) := by simp [World.cell?, hrow2]
      have z2 : wr.cell? ⟨w.heap.size + 1, 2, none⟩ = some (.int .i64 0) := by simp [World.cell?, hrow2]
      have z3 : wr.cell? ⟨w.heap.size + 1, 3, none⟩ = some (.int .i64 0) := by simp [World.cell?, hrow2]
      have zf : ∀ o, wr.frozen? ⟨w.heap.size + 1, o, none⟩ = false := by simp [World.frozen?, hrow2]
      have hs : s' = doP s l := Sm.ext_get fun j a b => by
        have := HE.out j.toNat (by omega)
        rw [if_pos (by omega), show ((j.toNat : Nat) : Int) = j by omega] at this
        rw [this, HDP.out j a b]
      have HS := Lib.hid hs
      clear hrow hrow2 hel HE hs HDP
      go_wp2
      refine bodyPost_ret (v := .agg #[.int .i64 s'.a, .int .i64 s'.b, .int .i64 s'.c, .int .i64 s'.d]) (by simp [results, Try.results89, go_sem, z0, z1, z2, z3]) rfl ?_
      refine ⟨by rw [HS.out], ?_⟩
      refine Grow.setCell (Grow.setCell (Grow.setCell (Grow.setCell hb ?_ _) ?_ _) ?_ _) ?_ _ <;> simp
end Go.Proofs.Ytgbhpghgohggcaa
