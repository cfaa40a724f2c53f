/- The closed fact that chapter 6's laws ask first, walked. -/
import Derived.Test.YtgbhpghgohggcaaK1
namespace Go.Proofs.Ytgbhpghgohggcaa
open Go.RowKit
/-- a slice of one thing -/
theorem sl_one {α : Type} {T : Ty α} {c : CM} {B n : Nat} {cs : List Value} {x : α} (hR : T.R c cs x) (hA : At c B 0 cs) (hn : 1 ≤ n) (hm : n ≤ maxLen) : Sl T c (.slice (some ⟨B, 0, none⟩) 1 n) [x] :=
  ⟨_, n, rfl, hn, hm, by simp, fun i y hy => by
    have hi := (List.getElem?_eq_some_iff.1 hy).1
    obtain rfl : i = 0 := by simpa using hi
    obtain rfl : x = y := by simpa using hy
    exact ⟨B, 0, cs, rfl, hR, by simpa using hA⟩⟩
theorem at_new (w : World) (c : Array Value) (t : TypeId) : At (w.alloc (.cells c t)).cell? w.heap.size 0 c.toList := fun j u hu => by
  rw [Nat.zero_add, World.cell?_alloc_new]; simpa using hu
/-- one part in a new array -/
theorem pts_one (a b c : Int) (ha : I64 a) (hb : I64 b) (hc : I64 c) (w W : World) (t : TypeId) (hW : Grow (w.alloc (.cells #[.int .i64 a, .int .i64 b, .int .i64 c] t)) W) : Pts W.cell? (.slice (some ⟨w.heap.size, 0, none⟩) 1 1) [⟨a, b, c⟩] :=
  Sl.mono hW.sub (sl_one (T := Ty.pt) ⟨rfl, ha, hb, hc⟩ (at_new _ _ _) (by decide) (by decide))
theorem Of.hs_form {c : CM} {v : Value} {h : Hs} (hv : Of Ty.hs c v h) : ∃ al cl ar cr ad cd, v = .agg #[.slice al h.log.length cl, .int .i64 h.sums.a, .int .i64 h.sums.b, .int .i64 h.sums.c, .int .i64 h.sums.d, .slice ar h.ready.length cr, .slice ad h.done.length cd] := by
  obtain ⟨cs, rfl, hR⟩ := hv
  obtain ⟨vl, vr, vd, rfl, hl, -, -, -, -, hr, hd⟩ := hR
  obtain ⟨ah, ch, rfl, -⟩ := id hl
  obtain ⟨ad, cd, rfl, -⟩ := id hd
  obtain ⟨ar, cr, rfl, -⟩ := id hr
  exact ⟨_, _, _, _, _, _, rfl⟩
def hs70 : Hs := houseR [⟨1, 70, [⟨0, 1, 5⟩]⟩]
set_option maxRecDepth 100000 in
set_option maxHeartbeats 1000000 in
theorem alive6 (w : World) : Calls Try.prog 33 #[] w fun e w' => e = .returned (.bool true) ∧ Grow w w' := by
  have i0 : I64 0 := by unfold I64; decide
  have i1 : I64 1 := by unfold I64; decide
  have i2 : I64 2 := by unfold I64; decide
  have i5 : I64 5 := by unfold I64; decide
  have i70 : I64 70 := by unfold I64; decide
  have HP := Lib.hid (pts_one 0 1 5 i0 i1 i5 w)
  have HQ := Lib.hid (pts_one 0 2 0 i0 i2 i0)
  have HI := Lib.hid (And.intro i1 i70)
  clear i0 i1 i2 i5 i70
  go_enter Try.func33, Try.ntmps33
  go_wp2_with fail
  refine (ref_house (l := [⟨1, 70, [⟨0, 1, 5⟩]⟩]) _ (sl_one (T := Ty.rc) ⟨_, rfl, HI.out.1, HI.out.2, HP.out _ 32 (by repeat (first | with_reducible assumption | with_reducible exact Grow.refl _ | with_reducible apply Grow.drewN | with_reducible apply Grow.drew | with_reducible apply Grow.alloc | (refine Grow.trans ?_ (by with_reducible assumption))))⟩ (by simpa using at_new (w.alloc _) #[.int .i64 1, .int .i64 70, .slice (some ⟨w.heap.size, 0, none⟩) 1 1] 48) (by decide) (by decide)) (by intro r hr p hp; simp at hr; subst hr; simp at hp; subst hp; decide) (by decide)).mono ?_
  have e1 : whoE hs70.ready 1 = 70 := by decide
  have e2 : whoE hs70.ready 2 = -1 := by decide
  have e3 : freeE hs70.ready [⟨0, 1, 5⟩] = false := by decide
  have e4 : freeE hs70.ready [⟨0, 2, 0⟩] = true := by decide
  rintro e w2 ⟨vh, rfl, hO, hb2⟩
  change Of Ty.hs _ _ hs70 at hO
  have H1 := fun (W : World) (hW : Grow w2 W) => locks_who (key := 1) W (hO.mono hW.sub)
  have H2 := fun (W : World) (hW : Grow w2 W) => locks_who (key := 2) W (hO.mono hW.sub)
  have H3 := fun (v' : Value) (W : World) (hW : Grow w2 W) => locks_free (v' := v') (ps := [⟨0, 1, 5⟩]) W (hO.mono hW.sub)
  have H4 := fun (v' : Value) (W : World) (hW : Grow w2 W) => locks_free (v' := v') (ps := [⟨0, 2, 0⟩]) W (hO.mono hW.sub)
  rw [e1] at H1
  rw [e2] at H2
  rw [e3] at H3
  rw [e4] at H4
  obtain ⟨al, cl, ar, cr, ad, cd, rfl⟩ := hO.hs_form
  generalize hs70.log.length = nl at *
  generalize hs70.ready.length = nr at *
  generalize hs70.done.length = nd at *
  generalize hs70.sums.a = sa at *
  generalize hs70.sums.b = sb at *
  generalize hs70.sums.c = sc at *
  generalize hs70.sums.d = sd at *
  have H1' := Lib.hid H1
  have H2' := Lib.hid H2
  have H3' := Lib.hid H3
  have H4' := Lib.hid H4
  have hs2 := hb2.size
  simp at hs2
  have HB := Lib.hid ((((Grow.refl w).alloc (.cells #[.int .i64 0, .int .i64 1, .int .i64 5] 32)).alloc (.cells #[.int .i64 1, .int .i64 70, .slice (some ⟨w.heap.size, 0, none⟩) 1 1] 48)).trans hb2)
  have HB2' := Lib.hid (((Grow.refl (w.alloc (.cells #[.int .i64 0, .int .i64 1, .int .i64 5] 32))).alloc (.cells #[.int .i64 1, .int .i64 70, .slice (some ⟨w.heap.size, 0, none⟩) 1 1] 48)).trans hb2)
  clear e1 e2 e3 e4 H1 H2 H3 H4 hO hb2
  go_wp2_with fail
  refine (H1'.out _ ((Grow.refl _).alloc _)).mono ?_
  rintro e wa ⟨rfl, hbwa⟩
  (obtain ⟨cwa, fwa⟩ := bcell hbwa; have zwa0 : w2.heap.size < wa.heap.size := (by have := hbwa.size; (try simp at this); omega); have Gwa := Lib.hid hbwa; clear hbwa)
  have K1 := Lib.hid (((Grow.refl w2).alloc _).trans Gwa.out)
  go_wp2_with fail
  refine (H2'.out _ K1.out).mono ?_
  rintro e wb ⟨rfl, hbwb⟩
  (obtain ⟨cwb, fwb⟩ := bcell hbwb; have zwb0 : w2.heap.size < wb.heap.size := (by have := hbwb.size; (try simp at this); omega); have Gwb := Lib.hid hbwb; clear hbwb)
  have K2 := Lib.hid (K1.out.trans Gwb.out)
  go_wp2_with fail
  refine (H3'.out _ _ K2.out (HP.out _ _ (HB2'.out.trans K2.out))).mono ?_
  rintro e wc ⟨rfl, hbwc⟩
  (obtain ⟨cwc, fwc⟩ := bcell hbwc; have zwc0 : w2.heap.size < wc.heap.size := (by have := hbwc.size; (try simp at this); omega); have Gwc := Lib.hid hbwc; clear hbwc)
  have K3 := Lib.hid (K2.out.trans Gwc.out)
  go_wp2_with fail
  refine (H4'.out _ _ (K3.out.alloc _) (HQ.out _ _ _ (Grow.refl _))).mono ?_
  rintro e wd ⟨rfl, hbwd⟩
  (obtain ⟨cwd, fwd⟩ := bcell hbwd; have zwd0 : w2.heap.size < wd.heap.size := (by have := hbwd.size; (try simp at this); omega); have Gwd := Lib.hid hbwd; clear hbwd)
  go_wp2_with fail
  go_ret
  exact ⟨rfl, HB.out.trans ((K3.out.alloc _).trans Gwd.out)⟩
end Go.Proofs.Ytgbhpghgohggcaa
