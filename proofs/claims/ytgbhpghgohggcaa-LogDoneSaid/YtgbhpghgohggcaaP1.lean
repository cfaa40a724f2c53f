/- Walks over the functions on parts. -/
import Derived.Test.YtgbhpghgohggcaaTy
namespace Go.Proofs.Ytgbhpghgohggcaa
open Go.RowKit

/-- ref.Fits, prog.Fits, as a plain function -/
def fitsE (S : Int → Int) : List Pt → Int
  | [] => 0
  | p :: l => if wrap64 (S p.k + p.n) < 0 then 11 else if 1048576 < wrap64 (S p.k + p.n) then 4 else fitsE S l
/-- four sums by key -/
def S4 (s0 s1 s2 s3 : Int) (k : Int) : Int := if k = 0 then s0 else if k = 1 then s1 else if k = 2 then s2 else s3
def KeysOk (l : List Pt) : Prop := ∀ p ∈ l, 0 ≤ p.k ∧ p.k < 4

theorem S4_cell (s0 s1 s2 s3 k : Int) (h0 : 0 ≤ k) (h1 : k < 4) : (#[.int .i64 s0, .int .i64 s1, .int .i64 s2, .int .i64 s3] : Array Value)[k.toNat]? = some (.int .i64 (S4 s0 s1 s2 s3 k)) := by
  have : k = 0 ∨ k = 1 ∨ k = 2 ∨ k = 3 := by omega
  rcases this with rfl | rfl | rfl | rfl <;> rfl

set_option maxHeartbeats 400000 in
theorem ref_fits {v : Value} {l : List Pt} {s0 s1 s2 s3 : Int} (w : World) (hv : Pts w.cell? v l) (hk : KeysOk l) :
    Calls Try.prog 87 #[.agg #[.int .i64 s0, .int .i64 s1, .int .i64 s2, .int .i64 s3], v] w fun e w' => e = .returned (.int .i64 (fitsE (S4 s0 s1 s2 s3) l)) ∧ Grow w w' := by
  obtain ⟨a, cap, rfl, h1, h2, -, hel⟩ := hv
  unfold maxLen at h2
  go_enter Try.func87, Try.ntmps87
  go_wp2
  go_loopw [4, 9] (fun _ i wr => ∃ k : Nat, k ≤ l.length ∧ i = .int .i64 k ∧ Grow (w.alloc (.cells #[.int .i64 s0, .int .i64 s1, .int .i64 s2, .int .i64 s3] 25)) wr ∧ fitsE (S4 s0 s1 s2 s3) l = fitsE (S4 s0 s1 s2 s3) (l.drop k)) (fun _ i _ => l.length - (intOf i).toNat)
  case atStart => exact ⟨0, by omega, rfl, Grow.refl _, rfl⟩
  case round =>
    obtain ⟨k, hk', rfl, hb, hE⟩ := hrel
    have hbw := ((Grow.refl w).alloc _).trans hb
    by_cases hlt : k < l.length
    · obtain ⟨b, o, rfl, c0, c1, c2, -, -, -⟩ := Pts.at_ hel k hlt
      replace c0 := hbw.sub _ _ c0
      replace c1 := hbw.sub _ _ c1
      replace c2 := hbw.sub _ _ c2
      obtain ⟨hk0, hk1⟩ := hk l[k] (by simp)
      have cs : wr.cell? ⟨w.heap.size, l[k].k.toNat, none⟩ = some (.int .i64 (S4 s0 s1 s2 s3 l[k].k)) := hb.sub _ _ (by
        rw [World.cell?_alloc_new]; exact S4_cell s0 s1 s2 s3 _ hk0 hk1)
      have hsz : w.heap.size < wr.heap.size := by have := hb.size; simp at this; omega
      rw [List.drop_eq_getElem_cons hlt, fitsE] at hE
      clear hel hk
      generalize l[k].h = ph at *
      generalize l[k].k = pk at *
      generalize l[k].n = pn at *
      generalize S4 s0 s1 s2 s3 pk = spk at *
      have HE := Lib.hid hE
      clear hE
      go_wp2_with (go_quiet (fail))
      · go_ret
        exact ⟨ret_int (by rw [HE.out, if_pos ‹_›]), (by repeat (first | with_reducible assumption | with_reducible exact Grow.refl _ | with_reducible apply Grow.drewN | with_reducible apply Grow.drew | with_reducible apply Grow.alloc | (refine Grow.setCell ?_ (by simp; done) _)))⟩
      · go_ret
        rename_i t1 _ t2
        exact ⟨ret_int (by rw [HE.out, if_neg (by omega), if_pos t2]), (by repeat (first | with_reducible assumption | with_reducible exact Grow.refl _ | with_reducible apply Grow.drewN | with_reducible apply Grow.drew | with_reducible apply Grow.alloc | (refine Grow.setCell ?_ (by simp; done) _)))⟩
      · rename_i t1 _ t2
        go_roundw
        case rel => exact ⟨k + 1, by omega, by go_num, (by repeat (first | with_reducible assumption | with_reducible exact Grow.refl _ | with_reducible apply Grow.drewN | with_reducible apply Grow.drew | with_reducible apply Grow.alloc | (refine Grow.setCell ?_ (by simp; done) _))), by rw [HE.out, if_neg (by omega), if_neg (by omega)]⟩
        case measure => simp [intOf]; omega
    · go_wp2
      go_ret
      refine ⟨?_, hbw⟩
      rw [hE, List.drop_of_length_le (by omega)]
      rfl

def ofL (l : List Pt) (n : Int) : List Pt := l.filter fun p => p.h == n

set_option maxHeartbeats 400000 in
theorem ref_of {v : Value} {l : List Pt} {n : Int} (w : World) (hv : Pts w.cell? v l) (hm : l.length * 24 ≤ 140737488355328) :
    Calls Try.prog 83 #[v, .int .i64 n] w fun e w' => ∃ v', e = .returned v' ∧ w'.ownsRow w.heap.size 32 3 v' (ofL l n).length (ptCells (ofL l n)) ∧ Grow w w' := by
  obtain ⟨a, cap, rfl, h1, h2, -, hel⟩ := hv
  unfold maxLen at h2
  go_enter Try.func83, Try.ntmps83
  go_wp2
  go_loopw [5, 10] (fun v i wr => ∃ k : Nat, k ≤ l.length ∧ i = .int .i64 k ∧ Grow w wr ∧ wr.ownsRow w.heap.size 32 3 v (ofL (l.take k) n).length (ptCells (ofL (l.take k) n))) (fun _ i _ => l.length - (intOf i).toNat)
  case atStart => exact ⟨0, by omega, rfl, Grow.refl _, World.ownsRow_nil _ _ _ _⟩
  case round =>
    obtain ⟨k, hk', rfl, hb, hown⟩ := hrel
    by_cases hlt : k < l.length
    · obtain ⟨b, o, rfl, c0, c1, c2, -, -, -⟩ := Pts.at_ hel k hlt
      replace c0 := hb.sub _ _ c0
      replace c1 := hb.sub _ _ c1
      replace c2 := hb.sub _ _ c2
      have hd : ofL (l.take (k + 1)) n = ofL (l.take k) n ++ if l[k].h == n then [l[k]] else [] := by
        rw [List.take_succ_eq_append_getElem hlt, ofL, List.filter_append]
        by_cases h : l[k].h == n <;> simp [h, ofL]
      have hle : (ofL (l.take k) n).length ≤ k := Nat.le_trans (List.length_filter_le _ _) (List.length_take_le _ _)
      clear hel
      generalize hp : l[k] = p at *
      obtain ⟨ph, pk, pn⟩ := p
      clear hp
      simp only at c0 c1 c2 hd
      have HD := Lib.hid hd
      clear hd
      generalize ofL (l.take k) n = acc at *
      have hsz := hb.size
      cases ht : (ph == n)
      · go_wp2_with (go_quiet (fail))
        go_roundw
        case rel => exact ⟨k + 1, by omega, by go_num, (by repeat (first | with_reducible assumption | with_reducible exact Grow.refl _ | with_reducible apply Grow.drewN | with_reducible apply Grow.drew | with_reducible apply Grow.alloc | (refine Grow.setCell ?_ (by simp; done) _))), by rw [HD.out, ht]; simpa using hown.alloc _⟩
        case measure => simp [intOf]; omega
      · go_wp2_with (at_builtin; refine app1 ei_pt rfl _ _ rfl (hb.alloc _) rfl (hown.alloc _) rfl (by simp) rfl (by simp [Value.oneCell']) (by omega) (by decide) ?_; intro v' w' hown' hb' _)
        go_roundw
        case rel => exact ⟨k + 1, by omega, by go_num, hb', by rw [HD.out, ht]; simpa [ptCells_snoc, Pt.cells] using hown'⟩
        case measure => simp [intOf]; omega
    · have hk2 : k = l.length := by omega
      rw [List.take_of_length_le (by omega)] at hown
      clear hel
      go_wp2
      go_ret
      exact ⟨_, rfl, hown, hb⟩
end Go.Proofs.Ytgbhpghgohggcaa
