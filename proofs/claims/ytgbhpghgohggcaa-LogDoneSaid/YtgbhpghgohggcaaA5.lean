/- The closed fact that chapter 5's laws ask first, walked. -/
import Derived.Test.YtgbhpghgohggcaaM8
import Derived.Test.YtgbhpghgohggcaaA6
namespace Go.Proofs.Ytgbhpghgohggcaa
open Go.RowKit
def r70a : Rc := ⟨1, 70, [⟨0, 1, 5⟩]⟩
def r70b : Rc := ⟨2, 70, []⟩
def l70 : List Rc := [⟨4, 0, []⟩, ⟨5, 70, [⟨0, 1, 5⟩]⟩]
def h70 : Hs := noteE (noteE (houseR []) r70a) r70b
/-- a slice of two things -/
theorem sl_two {α : Type} {T : Ty α} {c : CM} {B n : Nat} {cs cs' : List Value} {x y : α} (hR : T.R c cs x) (hR' : T.R c cs' y) (hA : At c B 0 (cs ++ cs')) (hn : 2 ≤ n) (hm : n ≤ maxLen) : Sl T c (.slice (some ⟨B, 0, none⟩) 2 n) [x, y] := by
  refine ⟨_, n, rfl, hn, hm, by simp, fun i z hz => ?_⟩
  have hl := T.len hR
  have hl' := T.len hR'
  have hi := (List.getElem?_eq_some_iff.1 hz).1
  simp at hi
  by_cases h0 : i = 0
  · subst h0
    obtain rfl : x = z := by simpa using hz
    refine ⟨B, 0, cs, rfl, hR, fun j u hu => ?_⟩
    rw [Nat.zero_mul]
    exact hA j u (by rw [List.getElem?_append_left (List.getElem?_eq_some_iff.1 hu).1]; exact hu)
  · obtain rfl : i = 1 := by omega
    obtain rfl : y = z := by simpa using hz
    refine ⟨B, 0, cs', rfl, hR', fun j u hu => ?_⟩
    have := hA (T.size + j) u (by rw [List.getElem?_append_right (by omega), hl, Nat.add_sub_cancel_left]; exact hu)
    rw [Nat.one_mul, Nat.zero_add]
    rw [Nat.zero_add] at this
    exact this
theorem ov_none {w w' : World} (hg : Grow w w') : Sub (ov (fun _ => none) w w') w'.cell? := ov_sub (fun _ _ e => by cases e) hg
set_option maxRecDepth 100000 in
set_option maxHeartbeats 4000000 in
theorem alive5 (w : World) : Calls Try.prog 47 #[] w fun e w' => e = .returned (.bool true) ∧ Grow w w' := by
  have i0 : I64 0 := zero_ok
  have i1 : I64 1 := by unfold I64; decide
  have i2 : I64 2 := by unfold I64; decide
  have i4 : I64 4 := by unfold I64; decide
  have i5 : I64 5 := by unfold I64; decide
  have i70 : I64 70 := by unfold I64; decide
  have HP := Lib.hid (pts_one 0 1 5 i0 i1 i5 w)
  have HI := Lib.hid (show I64 0 ∧ I64 1 ∧ I64 2 ∧ I64 4 ∧ I64 5 ∧ I64 70 from ⟨i0, i1, i2, i4, i5, i70⟩)
  clear i0 i1 i2 i4 i5 i70
  go_enter Try.func47, Try.ntmps47
  go_wp2_with fail
  refine (wlog_house (l := []) _ (Sl.nil _ _) (by simp) (by decide) (by simp)).mono ?_
  rintro e w1 ⟨v1, rfl, hO1, hb1⟩
  have HB1 := Lib.hid (((Grow.refl w).alloc (.cells #[.int .i64 0, .int .i64 1, .int .i64 5] 32)).trans hb1)
  have HP1 := Lib.hid (fun (W : World) (hW : Grow w1 W) => HP.out W 32 (hb1.trans hW))
  have HO1 := Lib.hid (hO1.mono (ov_none hb1))
  clear hO1 hb1
  go_wp2_with fail
  refine (wlog_note (h := houseR []) (r := r70a) w1 HO1.out ⟨_, rfl, _, rfl, HI.out.2.1, HI.out.2.2.2.2.2, HP1.out _ (Grow.refl _)⟩ (by intro x hx; cases hx) (by intro p hp; simp [r70a] at hp; subst hp; decide) (by decide) (by intro x hx; cases hx) (by decide)).mono ?_
  rintro e w2 ⟨v2, rfl, hO2, hb2⟩
  have HB2 := Lib.hid (HB1.out.trans hb2)
  have HP2 := Lib.hid (fun (W : World) (hW : Grow w2 W) => HP1.out W (hb2.trans hW))
  have HO2 := Lib.hid (hO2.mono (ov_none hb2))
  clear hO2 hb2
  go_wp2_with fail
  refine (wlog_note (h := noteE (houseR []) r70a) (r := r70b) w2 HO2.out ⟨_, rfl, _, rfl, HI.out.2.2.1, HI.out.2.2.2.2.2, Sl.nil _ _⟩ (by intro x hx; rw [note_log] at hx; obtain rfl : x = r70a := (by simpa [houseR] using hx); intro p hp; simp [r70a] at hp; subst hp; decide) (by intro p hp; simp [r70b] at hp) (by decide) (by intro x hx; rw [note_log] at hx; obtain rfl : x = r70a := (by simpa [houseR] using hx); decide) (by decide)).mono ?_
  rintro e w3 ⟨v3, rfl, hO3, hb3⟩
  change Of Ty.hs _ _ h70 at hO3
  obtain ⟨al, cl, ar, cr, ad, cd, hf⟩ := hO3.hs_form
  rw [show h70.log.length = 2 by decide, show h70.sums.b = 5 by kernel_rfl, show h70.ready.length = 0 by decide, show h70.done.length = 1 by decide] at hf
  subst hf
  generalize h70.sums.a = sa at *
  generalize h70.sums.c = sc at *
  generalize h70.sums.d = sd at *
  have HB3 := Lib.hid (HB2.out.trans hb3)
  have HP3 := Lib.hid (fun (W : World) (hW : Grow w3 W) => HP2.out W (hb3.trans hW))
  clear hO3 hb3
  go_wp2_with fail
  have hl : ∀ W : World, Grow ((w3.alloc (.cells #[.slice al 2 cl, .int .i64 sa, .int .i64 5, .int .i64 sc, .int .i64 sd, .slice ar 0 cr, .slice ad 1 cd] 29)).alloc (.cells #[.int .i64 4, .int .i64 0, .slice none 0 0, .int .i64 5, .int .i64 70, .slice (some ⟨w.heap.size, 0, none⟩) 1 1] 48)) W → Rcs W.cell? (.slice (some ⟨w3.heap.size + 1, 0, none⟩) 2 2) l70 := fun W hW =>
    sl_two (T := Ty.rc) (cs := [.int .i64 4, .int .i64 0, .slice none 0 0]) (cs' := [.int .i64 5, .int .i64 70, .slice (some ⟨w.heap.size, 0, none⟩) 1 1]) ⟨_, rfl, HI.out.2.2.2.1, HI.out.1, Sl.nil _ _⟩ ⟨_, rfl, HI.out.2.2.2.2.1, HI.out.2.2.2.2.2, HP3.out _ ((((Grow.refl w3).alloc _).alloc _).trans hW)⟩ (At.mono hW.sub (at_new' (by simp))) (by decide) (by decide)
  have HL := Lib.hid hl
  have hp70 : ∀ r ∈ l70, r.parts.length * 24 ≤ 140737488355328 := by decide
  have HD := Lib.hid (fun (W : World) hW => wlog_decided W (HL.out W hW) (by decide) hp70)
  have HO := Lib.hid (fun (W : World) hW => log_own W (HL.out W hW) (by decide) hp70)
  refine (wlog_head (l := l70) _ (HL.out _ (Grow.refl _)) (by decide) hp70).mono ?_
  rintro e w4 ⟨v4, rfl, hO4, hb4⟩
  obtain ⟨cs4, rfl, vl4, vo4, rfl, hlg, -, -, hop⟩ := hO4
  obtain ⟨ag, cg, rfl, -⟩ := id hlg
  obtain ⟨ao, co, rfl, -, -, -, hel⟩ := hop.mono (ov_none hb4)
  obtain ⟨b, o, vp, vh, rfl, -, -, c2, -, -, -, -⟩ := Opns.at_ hel 0 (by decide)
  rw [show (headR l70).opn[0].dec = true by decide] at c2
  rw [show (headR l70).boot = 1 by kernel_rfl, show (headR l70).opn.length = 1 by decide]
  generalize (headR l70).next = nx at *
  generalize (headR l70).log.length = nl at *
  have c2z : b < w4.heap.size := World.block_lt_of_cell? w4 _ c2
  have HB4 := Lib.hid hb4
  obtain ⟨cw4, fw4⟩ := bcell hb4
  have z4 : w3.heap.size < w4.heap.size := by have := hb4.size; simp at this; omega
  have hd1 : (decidedR l70).length = 1 := by decide
  have hd2 : l70.length = 2 := by decide
  clear hl hp70 hlg hop hel hb4
  go_wp2_with fail
  refine (HD.out _ (HB4.out.trans ((Grow.refl _).alloc _))).mono ?_
  rintro e w5 ⟨v5, rfl, ho5, hb5⟩
  obtain ⟨a5, c5, rfl⟩ := ho5.form
  rw [hd1]
  have HB5 := Lib.hid ((HB4.out.trans ((Grow.refl _).alloc _)).trans hb5)
  clear ho5 hb5
  go_wp2_with fail
  refine (HO.out _ HB5.out).mono ?_
  rintro e w6 ⟨v6, rfl, ho6, hb6⟩
  obtain ⟨a6, c6, rfl⟩ := ho6.form
  rw [hd2]
  have HB6 := Lib.hid (HB5.out.trans hb6)
  clear ho6 hb6
  go_wp2
  go_ret
  exact ⟨rfl, (HB3.out.trans (((Grow.refl _).alloc _).alloc _)).trans HB6.out⟩
end Go.Proofs.Ytgbhpghgohggcaa
