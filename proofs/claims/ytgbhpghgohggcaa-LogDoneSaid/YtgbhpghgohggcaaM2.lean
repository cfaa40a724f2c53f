/- Walks: log.ready; a house in its box, as its log is walked. -/
import Derived.Test.YtgbhpghgohggcaaM1
import Derived.Test.YtgbhpghgohggcaaIdx
import Derived.Test.YtgbhpghgohggcaaS4
namespace Go.Proofs.Ytgbhpghgohggcaa
open Go.RowKit
theorem lready_lit (w : World) (B : Nat) (d : Int) (wx : World) (cs : List Value) (x : Rd) (hc : w.cell? ⟨B, 0, none⟩ = some (.int .i64 d)) (hg : Grow w wx) (hR : Ty.rd.R wx.cell? cs x) :
    Calls Try.prog 162 #[.agg cs.toArray, .pointer (some ⟨B, 0, none⟩)] wx fun e w' => e = .returned (.bool (isD d x)) ∧ Grow wx w' := by
  obtain ⟨vp, rfl, -, hp⟩ := hR
  obtain ⟨ap, cp, rfl, -⟩ := hp
  have hB := World.block_lt_of_cell? w _ hc
  simp only at hB
  have hBx : B < wx.heap.size := Nat.lt_of_lt_of_le hB hg.size
  replace hc := hg.sub _ _ hc
  go_enter Try.func162, Try.ntmps162
  go_wp2
  go_ret
  exact ⟨rfl, (by repeat (first | with_reducible assumption | with_reducible exact Grow.refl _ | with_reducible apply Grow.drewN | with_reducible apply Grow.drew | with_reducible apply Grow.alloc | (refine Grow.setCell ?_ (by simp; done) _)))⟩
theorem lready_tells (w : World) (B : Nat) (d : Int) (l : List Rd) (hc : w.cell? ⟨B, 0, none⟩ = some (.int .i64 d)) : Tells Try.prog Ty.rd aggOf w 162 #[.pointer (some ⟨B, 0, none⟩)] l (isD d) where
  ent := fun args w => by kernel_rfl
  say := fun wx cs x hg _ hR => lready_lit w B d wx cs x hc hg hR
theorem log_ready {v : Value} {l : List Rd} {d : Int} (w : World) (hv : Sl Ty.rd w.cell? v l) :
    Calls Try.prog 121 #[v, .int .i64 d] w fun e w' => e = .returned (.int .i64 (idxOf (isD d) l)) ∧ Grow w w' := by
  have HX := Lib.hid (indexFunc_rd (w.alloc (.cells #[.int .i64 d] 3)) (hv.mono ((Grow.refl w).alloc _).sub) (lready_tells (w.alloc (.cells #[.int .i64 d] 3)) w.heap.size d l (by rw [World.cell?_alloc_new]; rfl)))
  obtain ⟨a, cap, rfl, -⟩ := hv
  go_enter Try.func121, Try.ntmps121
  go_wp2_with fail
  refine HX.out.mono ?_
  rintro e w1 ⟨rfl, hb1⟩
  have HB := Lib.hid hb1
  clear hb1
  go_wp2
  go_ret
  exact ⟨rfl, ((Grow.refl w).alloc _).trans HB.out⟩
end Go.Proofs.Ytgbhpghgohggcaa
