/- Walks over Do on parts. -/
import Derived.Test.YtgbhpghgohggcaaP1
namespace Go.Proofs.Ytgbhpghgohggcaa
open Go.RowKit

def Sm.get (s : Sm) (k : Int) : Int := S4 s.a s.b s.c s.d k
def Sm.put (s : Sm) (k x : Int) : Sm := if k = 0 then { s with a := x } else if k = 1 then { s with b := x } else if k = 2 then { s with c := x } else { s with d := x }
def Sm.add (s : Sm) (k n : Int) : Sm := s.put k (wrap64 (s.get k + n))
def doP (s : Sm) (l : List Pt) : Sm := l.foldl (fun s p => s.add p.k p.n) s

theorem Sm.set_cells (s : Sm) (k x : Int) (h0 : 0 ≤ k) (h1 : k < 4) : (#[.int .i64 s.a, .int .i64 s.b, .int .i64 s.c, .int .i64 s.d] : Array Value).setIfInBounds k.toNat (.int .i64 x) = #[.int .i64 (s.put k x).a, .int .i64 (s.put k x).b, .int .i64 (s.put k x).c, .int .i64 (s.put k x).d] := by
  have : k = 0 ∨ k = 1 ∨ k = 2 ∨ k = 3 := by omega
  rcases this with rfl | rfl | rfl | rfl <;> rfl
theorem Sm.row_cell {w : World} {B : Nat} {s : Sm} {t : TypeId} (h : w.heap[B]? = some (.cells #[.int .i64 s.a, .int .i64 s.b, .int .i64 s.c, .int .i64 s.d] t (0, 0))) (k : Int) (h0 : 0 ≤ k) (h1 : k < 4) : w.cell? ⟨B, k.toNat, none⟩ = some (.int .i64 (s.get k)) := by
  simp only [World.cell?, h]; exact S4_cell _ _ _ _ _ h0 h1
theorem Sm.row_free {w : World} {B : Nat} {s : Sm} {t : TypeId} (h : w.heap[B]? = some (.cells #[.int .i64 s.a, .int .i64 s.b, .int .i64 s.c, .int .i64 s.d] t (0, 0))) (o : Nat) : w.frozen? ⟨B, o, none⟩ = false := by
  simp [World.frozen?, h]
theorem Sm.row_set {w : World} {B : Nat} {s : Sm} {t : TypeId} (h : w.heap[B]? = some (.cells #[.int .i64 s.a, .int .i64 s.b, .int .i64 s.c, .int .i64 s.d] t (0, 0))) (k x : Int) (h0 : 0 ≤ k) (h1 : k < 4) : (w.setCell ⟨B, k.toNat, none⟩ (.int .i64 x)).heap[B]? = some (.cells #[.int .i64 (s.put k x).a, .int .i64 (s.put k x).b, .int .i64 (s.put k x).c, .int .i64 (s.put k x).d] t (0, 0)) := by
  simp only [World.setCell, Array.getElem?_modify, h]
  simp [← Sm.set_cells s k x h0 h1]
theorem heap_later {w : World} {B : Nat} {o : Obj} (h : w.heap[B]? = some o) (o' : Obj) : (w.alloc o').heap[B]? = some o := by
  exact (Below.heap_alloc w o' B (Array.getElem?_eq_some_iff.1 h).1).trans h

set_option maxRecDepth 100000 in
set_option maxHeartbeats 400000 in
theorem part_do {v : Value} {l : List Pt} {s : Sm} (w : World) (hv : Pts w.cell? v l) (hk : KeysOk l) :
    Calls Try.prog 88 #[.agg #[.int .i64 s.a, .int .i64 s.b, .int .i64 s.c, .int .i64 s.d], v] w fun e w' => e = .returned (.agg #[.int .i64 (doP s l).a, .int .i64 (doP s l).b, .int .i64 (doP s l).c, .int .i64 (doP s l).d]) ∧ Grow w w' := by
  obtain ⟨a, cap, rfl, h1, h2, -, hel⟩ := hv
  unfold maxLen at h2
  go_enter Try.func88, Try.ntmps88
  go_wp2
  go_loopw [9] (fun i wr => ∃ (k : Nat) (s' : Sm), k ≤ l.length ∧ i = .int .i64 k ∧ Grow w wr ∧ doP s' (l.drop k) = doP s l ∧ wr.heap[w.heap.size]? = some (.cells #[.int .i64 s'.a, .int .i64 s'.b, .int .i64 s'.c, .int .i64 s'.d] 25 (0, 0)) ∧ wr.heap[w.heap.size + 1]? = some (.cells #[.int .i64 0, .int .i64 0, .int .i64 0, .int .i64 0] 25 (0, 0))) (fun i _ => l.length - (intOf i).toNat)
  case atStart => exact ⟨0, s, by omega, rfl, (by repeat (first | with_reducible assumption | with_reducible exact Grow.refl _ | with_reducible apply Grow.drewN | with_reducible apply Grow.drew | with_reducible apply Grow.alloc | (refine Grow.setCell ?_ (by simp; done) _))), rfl, heap_later (heap_alloc_new w _) _, by simpa using heap_alloc_new (w.alloc _) _⟩
  case round =>
    obtain ⟨k, s', hk', rfl, hb, hE, hrow, hrow2⟩ := hrel
    have HE := Lib.hid hE
    clear hE
    by_cases hlt : k < l.length
    · obtain ⟨b, o, rfl, c0, c1, c2, -, -, -⟩ := Pts.at_ hel k hlt
      replace c0 := hb.sub _ _ c0
      replace c1 := hb.sub _ _ c1
      replace c2 := hb.sub _ _ c2
      obtain ⟨hk0, hk1⟩ := hk l[k] (by simp)
      have HR := Lib.hid hrow
      have HR2 := Lib.hid hrow2
      have cs := Sm.row_cell hrow _ hk0 hk1
      have cf := Sm.row_free hrow l[k].k.toNat
      have hsz : w.heap.size < wr.heap.size := (Array.getElem?_eq_some_iff.1 hrow).1
      have HD := Lib.hid (List.drop_eq_getElem_cons hlt)
      clear hel hk hrow hrow2
      generalize hp : l[k] = p at *
      obtain ⟨ph, pk, pn⟩ := p
      clear hp
      simp only at c0 c1 c2 hk0 hk1 cs cf
      go_wp2
      go_region
      go_wp2
      go_roundw
      case rel => exact ⟨k + 1, s'.add pk pn, by omega, by go_num, (by repeat (first | with_reducible assumption | with_reducible exact Grow.refl _ | with_reducible apply Grow.drewN | with_reducible apply Grow.drew | with_reducible apply Grow.alloc | (refine Grow.setCell ?_ (by simp; done) _))), by rw [← HE.out, HD.out]; rfl, heap_later (Sm.row_set HR.out _ _ hk0 hk1) _, heap_later ((Below.heap_setCell _ _ _ _ (by simp)).trans HR2.out) _⟩
      case measure => simp [intOf]; omega
    · have e0 : wr.cell? ⟨w.heap.size, 0, none⟩ = some (.int .i64 s'.a) := by simp [World.cell?, hrow]
      have e1 : wr.cell? ⟨w.heap.size, 1, none⟩ = some (.int .i64 s'.b) := by simp [World.cell?, hrow]
      have e2 : wr.cell? ⟨w.heap.size, 2, none⟩ = some (.int .i64 s'.c) := by simp [World.cell?, hrow]
      have e3 : wr.cell? ⟨w.heap.size, 3, none⟩ = some (.int .i64 s'.d) := by simp [World.cell?, hrow]
      have z0 : wr.cell? ⟨w.heap.size + 1, 0, none⟩ = some (.int .i64 0) := by simp [World.cell?, hrow2]
      have z1 : wr.cell? ⟨w.heap.size + 1, 1, none⟩ = some (.int .i64 0) := by simp [World.cell?, hrow2]
      have z2 : wr.cell? ⟨w.heap.size + 1, 2, none⟩ = some (.int .i64 0) := by simp [World.cell?, hrow2]
      have z3 : wr.cell? ⟨w.heap.size + 1, 3, none⟩ = some (.int .i64 0) := by simp [World.cell?, hrow2]
      have zf : ∀ o, wr.frozen? ⟨w.heap.size + 1, o, none⟩ = false := by simp [World.frozen?, hrow2]
      have hs : s' = doP s l := by rw [← HE.out, List.drop_of_length_le (by omega)]; rfl
      have HS := Lib.hid hs
      clear hrow hrow2 hel hk HE hs
      go_wp2
      refine bodyPost_ret (v := .agg #[.int .i64 s'.a, .int .i64 s'.b, .int .i64 s'.c, .int .i64 s'.d]) (by simp [results, Try.results88, go_sem, z0, z1, z2, z3]) rfl ?_
      refine ⟨by rw [HS.out], ?_⟩
      refine Grow.setCell (Grow.setCell (Grow.setCell (Grow.setCell hb ?_ _) ?_ _) ?_ _) ?_ _ <;> simp
end Go.Proofs.Ytgbhpghgohggcaa
