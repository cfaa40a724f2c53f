/- The parts that HouseWord is proved of, joined: V2, V3, Win, V4a, V4b, V4c, V4d, V4e, V5, V6, A7, K10. No condition beside those that each theorem names. -/
import Derived.Test.YtgbhpghgohggcaaJHouseWordc
/- Walks: slices.Index and slices.Contains of ints; Vote of the program. -/
namespace Go.Proofs.Ytgbhpghgohggcaa
open Go.RowKit
set_option maxHeartbeats 400000 in
theorem index_int {v : Value} {l : List Int} {n : Int} (w : World) (hv : Ints w.cell? v l) :
    Calls Try.prog 165 #[v, .int .i64 n] w fun e w' => e = .returned (.int .i64 (idxOf (fun x => n == x) l)) ∧ Grow w w' := by
  obtain ⟨a, cap, rfl, h1, h2, -, hel⟩ := hv
  unfold maxLen at h2
  go_enter Try.func165, Try.ntmps165
  go_wp2
  go_loopw [4, 5, 8] (fun _ _ i wr => ∃ k : Nat, k ≤ l.length ∧ i = .int .i64 k ∧ Grow w wr ∧ (l.take k).findIdx? (fun x => n == x) = none) (fun _ _ i _ => l.length - (intOf i).toNat)
  case atStart => exact ⟨0, by omega, rfl, (by repeat (first | with_reducible assumption | with_reducible exact Grow.refl _ | with_reducible apply Grow.drewN | with_reducible apply Grow.drew | with_reducible apply Grow.alloc | (refine Grow.setCell ?_ (by simp; done) _))), by simp⟩
  case round =>
    obtain ⟨k, hk', rfl, hb, hE⟩ := hrel
    by_cases hlt : k < l.length
    · obtain ⟨b, o, rfl, c0, -⟩ := intAt hel k hlt
      replace c0 := hb.sub _ _ c0
      obtain ⟨s1, s2⟩ := idx_step hlt hE
      have S1 := Lib.hid s1
      have S2 := Lib.hid s2
      clear hel hE s1 s2
      generalize l[k] = x at *
      cases ht : (n == x)
      · have S3 := Lib.hid (S2.out ht)
        clear S1 S2
        go_wp2
        go_roundw
        case rel => exact ⟨k + 1, by omega, by go_num, (by repeat (first | with_reducible assumption | with_reducible exact Grow.refl _ | with_reducible apply Grow.drewN | with_reducible apply Grow.drew | with_reducible apply Grow.alloc | (refine Grow.setCell ?_ (by simp; done) _))), S3.out⟩
        case measure => simp [intOf]; omega
      · have S3 := Lib.hid (S1.out ht)
        clear S1 S2
        go_wp2
        go_ret
        exact ⟨ret_int S3.out.symm, (by repeat (first | with_reducible assumption | with_reducible exact Grow.refl _ | with_reducible apply Grow.drewN | with_reducible apply Grow.drew | with_reducible apply Grow.alloc | (refine Grow.setCell ?_ (by simp; done) _)))⟩
    · have HE := Lib.hid hE
      clear hel hE
      go_wp2
      go_ret
      refine ⟨ret_int ?_, hb⟩
      have h9 := HE.out
      rw [List.take_of_length_le (by omega)] at h9
      unfold idxOf
      rw [h9]
theorem contains_int {v : Value} {l : List Int} {n : Int} (w : World) (hv : Ints w.cell? v l) :
    Calls Try.prog 128 #[v, .int .i64 n] w fun e w' => e = .returned (.bool (decide (n ∈ l))) ∧ Grow w w' := by
  have HI := Lib.hid (index_int (n := n) w hv)
  have HN : Hid (decide (0 ≤ idxOf (fun x => n == x) l) = decide (n ∈ l)) := by
    show _ = _
    rw [idxOf_nonneg, Bool.eq_iff_iff, List.any_eq_true, decide_eq_true_eq]
    constructor
    · rintro ⟨x, hx, h⟩
      have : n = x := by simpa using h
      rw [this]; exact hx
    · intro h; exact ⟨n, h, by simp⟩
  clear hv
  generalize idxOf (fun x => n == x) l = i at *
  go_enter Try.func128, Try.ntmps128
  go_wp2_with (go_at_call 165; refine HI.out.mono ?_; rintro e w' ⟨rfl, hb'⟩)
  go_ret
  exact ⟨ret_bool HN.out, hb'⟩
set_option maxRecDepth 100000 in
set_option maxHeartbeats 2000000 in
theorem house_vote {v vp : Value} {h : Hs} {d : Int} {ps : List Pt} (w : World) (hv : Of Ty.hs w.cell? v h) (hp : Pts w.cell? vp ps) (hk : KeysOk ps) :
    Calls Try.prog 51 #[v, .int .i64 d, vp] w fun e w' => e = .returned (.int .i64 (voteE h d ps)) ∧ Grow w w' := by
  have HO := Lib.hid hv
  obtain ⟨al, cl, ar, cr, ad, cd, rfl⟩ := hv.hs_form
  have kk := Of.hs_log hv
  have HIN := Lib.hid (fun (W : World) (hW : Grow w W) => contains_int (n := d) W (kk.2.2.mono hW.sub))
  have HIS := Lib.hid (fun (W : World) (hW : Grow w W) hb hc => house_is (B := w.heap.size) (d := d) W hb hc (kk.2.1.mono hW.sub))
  have HFR := Lib.hid (fun (W : World) (hW : Grow w W) => locks_free W (HO.out.mono hW.sub) (hp.mono hW.sub))
  have HFT := Lib.hid (fun (W : World) (hW : Grow w W) => part_fits (s0 := h.sums.a) (s1 := h.sums.b) (s2 := h.sums.c) (s3 := h.sums.d) W (hp.mono hW.sub) hk)
  have HROW := Lib.hid (row_new w (.cells #[.slice al h.log.length cl, .int .i64 h.sums.a, .int .i64 h.sums.b, .int .i64 h.sums.c, .int .i64 h.sums.d, .slice ar h.ready.length cr, .slice ad h.done.length cd] 29))
  have HG0 := Lib.hid ((Grow.refl w).alloc (.cells #[.slice al h.log.length cl, .int .i64 h.sums.a, .int .i64 h.sums.b, .int .i64 h.sums.c, .int .i64 h.sums.d, .slice ar h.ready.length cr, .slice ad h.done.length cd] 29))
  clear hv hp hk kk
  by_cases hd : d ∈ h.done
  · have HE : Hid (voteE h d ps = 10) := by show voteE h d ps = 10; unfold voteE; rw [if_pos hd]
    have HD := Lib.hid (decide_eq_true hd)
    clear hd
    go_enter Try.func51, Try.ntmps51
    go_wp2_with fail
    refine (HIN.out _ HG0.out).mono ?_
    rw [HD.out]
    rintro e w1 ⟨rfl, hb1⟩
    go_wp2
    go_ret
    exact ⟨ret_int HE.out.symm, HG0.out.trans hb1⟩
  have HD := Lib.hid (decide_eq_false hd)
  by_cases hr : readyE h.ready d = true
  · have HE : Hid (voteE h d ps = 0) := by show voteE h d ps = 0; unfold voteE; rw [if_neg hd, if_pos hr]
    have HR := Lib.hid hr
    clear hd hr
    go_enter Try.func51, Try.ntmps51
    go_wp2_with fail
    refine (HIN.out _ HG0.out).mono ?_
    rw [HD.out]
    rintro e w1 ⟨rfl, hb1⟩
    have HB1 := Lib.hid hb1
    clear hb1
    have R1 := Lib.hid (row_grow HROW.out HB1.out)
    go_wp2_with fail
    refine (HIS.out w1 (HG0.out.trans HB1.out) (Array.getElem?_eq_some_iff.1 R1.out).1 (cells7 R1.out).2.2.2.2.2.1).mono ?_
    rw [HR.out]
    rintro e w2 ⟨rfl, hb2⟩
    go_wp2
    go_ret
    exact ⟨ret_int HE.out.symm, (HG0.out.trans HB1.out).trans hb2⟩
  have HR : Hid (readyE h.ready d = false) := by show _ = _; simpa using hr
  cases hf : freeE h.ready ps with
  | false =>
    have HE : Hid (voteE h d ps = 12) := by show voteE h d ps = 12; unfold voteE; rw [if_neg hd, if_neg hr, if_pos hf]
    clear hd hr
    go_enter Try.func51, Try.ntmps51
    go_wp2_with fail
    refine (HIN.out _ HG0.out).mono ?_
    rw [HD.out]
    rintro e w1 ⟨rfl, hb1⟩
    have HB1 := Lib.hid hb1
    clear hb1
    have R1 := Lib.hid (row_grow HROW.out HB1.out)
    go_wp2_with fail
    refine (HIS.out w1 (HG0.out.trans HB1.out) (Array.getElem?_eq_some_iff.1 R1.out).1 (cells7 R1.out).2.2.2.2.2.1).mono ?_
    rw [HR.out]
    rintro e w2 ⟨rfl, hb2⟩
    have HB2 := Lib.hid ((HG0.out.trans HB1.out).trans hb2)
    obtain ⟨s0, s1, s2, s3, s4, s5, s6⟩ := cells7 (row_grow R1.out hb2)
    clear hb2
    go_wp2_with fail
    refine (HFR.out w2 HB2.out).mono ?_
    rw [hf]
    rintro e w3 ⟨rfl, hb3⟩
    go_wp2
    go_ret
    exact ⟨ret_int HE.out.symm, HB2.out.trans hb3⟩
  | true =>
    have HE : Hid (voteE h d ps = fitsE h.sums.get ps) := by show voteE h d ps = _; unfold voteE; rw [if_neg hd, if_neg hr, if_neg (by rw [hf]; simp)]
    clear hd hr
    go_enter Try.func51, Try.ntmps51
    go_wp2_with fail
    refine (HIN.out _ HG0.out).mono ?_
    rw [HD.out]
    rintro e w1 ⟨rfl, hb1⟩
    have HB1 := Lib.hid hb1
    clear hb1
    have R1 := Lib.hid (row_grow HROW.out HB1.out)
    go_wp2_with fail
    refine (HIS.out w1 (HG0.out.trans HB1.out) (Array.getElem?_eq_some_iff.1 R1.out).1 (cells7 R1.out).2.2.2.2.2.1).mono ?_
    rw [HR.out]
    rintro e w2 ⟨rfl, hb2⟩
    have HB2 := Lib.hid ((HG0.out.trans HB1.out).trans hb2)
    have R2 := Lib.hid (row_grow R1.out hb2)
    obtain ⟨s0, s1, s2, s3, s4, s5, s6⟩ := cells7 R2.out
    clear hb2
    go_wp2_with fail
    refine (HFR.out w2 HB2.out).mono ?_
    rw [hf]
    rintro e w3 ⟨rfl, hb3⟩
    have HB3 := Lib.hid (HB2.out.trans hb3)
    clear s0 s1 s2 s3 s4 s5 s6
    obtain ⟨s0, s1, s2, s3, s4, s5, s6⟩ := cells7 (row_grow R2.out hb3)
    clear hb3
    go_wp2_with fail
    refine (HFT.out w3 HB3.out).mono ?_
    rintro e w4 ⟨rfl, hb4⟩
    go_wp2
    go_ret
    exact ⟨ret_int (by rw [HE.out]; rfl), HB3.out.trans hb4⟩
end Go.Proofs.Ytgbhpghgohggcaa

/- Walks: what a house says, as its function value tells it. -/
namespace Go.Proofs.Ytgbhpghgohggcaa
open Go.RowKit
theorem house_say {B5 B4 : Nat} {kind d me : Int} (w : World) (h5 : w.cell? ⟨B5, 1, none⟩ = some (.int .i64 d)) (h4 : w.cell? ⟨B4, 0, none⟩ = some (.int .i64 me)) (_ : B5 < w.heap.size) (_ : B4 < w.heap.size) (ik : I64 kind) (id' : I64 d) (im : I64 me) :
    Calls Try.prog 126 #[.int .i64 kind, .pointer (some ⟨B5, 0, none⟩), .pointer (some ⟨B4, 0, none⟩)] w fun e w' => ∃ v', e = .returned v' ∧ Sl Ty.ms (ov (fun _ => none) w w') v' (sayE kind d me) ∧ Grow w w' := by
  have HI := Lib.hid (And.intro ik (And.intro id' im))
  clear ik id' im
  go_enter Try.func126, Try.ntmps126
  go_wp2
  go_ret
  refine ⟨_, rfl, ?_, (by repeat (first | with_reducible assumption | with_reducible exact Grow.refl _ | with_reducible apply Grow.drewN | with_reducible apply Grow.drew | with_reducible apply Grow.alloc | (refine Grow.setCell ?_ (by simp; done) _)))⟩
  exact sl_one (T := Ty.ms) ⟨_, rfl, HI.out.1, HI.out.2.1, HI.out.2.2, Sl.nil _ _⟩ (at_ov (at_new w #[.int .i64 kind, .int .i64 d, .int .i64 me, .slice none 0 0] 39) (Nat.le_refl _)) (by decide) (by decide)
end Go.Proofs.Ytgbhpghgohggcaa

/- Plain readings: memory between two heights. -/
namespace Go.Proofs.Ytgbhpghgohggcaa
open Go.RowKit
/-- memory between two heights -/
def win (lo hi : Nat) (w : World) : CM := fun a => if lo ≤ a.block ∧ a.block < hi then w.cell? a else none
theorem alloc_size (w : World) (o : Obj) : (w.alloc o).heap.size = w.heap.size + 1 := by simp
theorem win_sub (lo hi : Nat) (w : World) : Sub (win lo hi w) w.cell? := fun a v e => by
  unfold win at e
  split at e
  · exact e
  · cases e
theorem win_ov (W w : World) : Sub (ov (fun _ => none) W w) (win W.heap.size w.heap.size w) := fun a v e => by
  unfold ov at e
  split at e
  · cases e
  · unfold win
    rw [if_pos ⟨by omega, World.block_lt_of_cell? w a e⟩]; exact e
theorem win_by {lo hi : Nat} {w w' : World} {row : Option Nat} (h : w.grownBy w' row) (hr : ∀ k, row = some k → k < lo ∨ hi ≤ k) : Sub (win lo hi w) (win lo hi w') := fun a v e => by
  unfold win at e ⊢
  split at e
  · rename_i hc
    rw [if_pos hc, World.cell?_of_block (h.block a.block (World.block_lt_of_cell? w a e) (fun e => by have := hr a.block e.symm; omega))]
    exact e
  · cases e
theorem win_grow {w w' : World} (h : Grow w w') (lo hi : Nat) : Sub (win lo hi w) (win lo hi w') := win_by (grownBy_of_grow h none) (fun k e => by cases e)
theorem wanted_yes {o : Oper} {y : Nat → Option Bool} {X E : Prop} {inst : Decidable (Region.wanted o y = true)} (hgd : Region.wanted o y = true) (h : X) : @ite Prop (Region.wanted o y = true) inst X E := by
  rw [if_pos hgd]
  exact h
/-- what lies between two heights lies in new memory -/
theorem win_ovn {lo hi : Nat} {w W : World} (h : w.heap.size ≤ lo) : Sub (win lo hi W) (ov (fun _ => none) w W) := fun a v e => by
  unfold win at e
  split at e
  · unfold ov
    rw [if_neg (by omega)]; exact e
  · cases e
theorem win_set {lo hi B : Nat} {w w' : World} (h : w.grownBy w' (some B)) (hb : B < lo ∨ hi ≤ B) : Sub (win lo hi w) (win lo hi w') := win_by h fun k e => by
  obtain rfl := Option.some.inj e
  exact hb
theorem cell1 {w : World} {B : Nat} {a : Value} {t : TypeId} (h : w.heap[B]? = some (.cells #[a] t (0, 0))) : w.cell? ⟨B, 0, none⟩ = some a := by simp [World.cell?, h]
end Go.Proofs.Ytgbhpghgohggcaa

/- Walks: Hear of the program's houses (10, R, F). -/
namespace Go.Proofs.Ytgbhpghgohggcaa
open Go.RowKit
set_option maxRecDepth 100000 in
set_option maxHeartbeats 2000000 in
theorem phear_prep10 {v vm : Value} {h : Hs} {dd hh me : Int} {ps : List Pt} (w : World) (hv : Of Ty.hs w.cell? v h) (hm : Of Ty.ms w.cell? vm ⟨1, dd, hh, ps⟩) (hk : ∀ x ∈ h.log, KeysOk x.parts) (hkm : KeysOk ps) (hn : (h.log.length + 1) * 40 ≤ 140737488351232)
    (hp : ∀ x ∈ h.log, x.parts.length * 24 ≤ 140737488355328) (hpp : ps.length * 24 ≤ 140737488355328) (hme : I64 me) (hmd : Made h) (e10 : voteE h dd ps = 10) :
    Calls Try.prog 50 #[v, .int .i64 me, vm] w fun e w' => ∃ v1 v2, e = .returned (.tuple #[v1, v2]) ∧ Of Ty.hs (ov (fun _ => none) w w') v1 (hearH h ⟨1, dd, hh, ps⟩) ∧ Sl Ty.ms (ov (fun _ => none) w w') v2 (hearM h me ⟨1, dd, hh, ps⟩) ∧ Grow w w' := by
  obtain ⟨al, cl, ar, cr, ad, cd, rfl⟩ := hv.hs_form
  obtain ⟨ap, cp, rfl⟩ : ∃ ap cp, vm = .agg #[.int .i64 1, .int .i64 dd, .int .i64 hh, .slice ap ps.length cp] := hm.ms_form
  have hms : Sl Ty.pt w.cell? (.slice ap ps.length cp) ps ∧ I64 1 ∧ I64 dd ∧ I64 hh := Of.ms_parts hm
  have hlg := (Of.hs_log hv).1
  have HMS := Lib.hid hms
  have HV0 := Lib.hid hv
  have HME := Lib.hid hme
  have HVO := Lib.hid (fun (W : World) (hW : Grow w W) => house_vote (d := dd) W (hv.mono hW.sub) (hms.1.mono hW.sub) hkm)
  have HIS := Lib.hid (fun (W : World) (hW : Grow w W) hb hc => house_is (B := w.heap.size) (d := dd) W hb hc ((Of.hs_log hv).2.1.mono hW.sub))
  have HHS : Hid (∀ (W : World), Grow w W → Calls Try.prog 36 #[.slice al h.log.length cl] W fun e w' => ∃ v', e = .returned v' ∧ Of Ty.hs (ov (fun _ => none) W w') v' h ∧ Grow W w') := Lib.hid (fun (W : World) (hW : Grow w W) => by
    have hx := wlog_house W (hlg.mono hW.sub) hk (by omega) hp
    rw [← (show h = houseR h.log from hmd)] at hx
    exact hx)
  have HNT := Lib.hid (fun (r : Rc) (vr : Value) (W : World) (hW : Grow w W) (hr : Of Ty.rc W.cell? vr r) (hkr : KeysOk r.parts) (hpr : r.parts.length * 24 ≤ 140737488355328) => wlog_note W (hv.mono hW.sub) hr hk hkr (by omega) hp hpr)
  have HKP := Lib.hid (And.intro hkm hpp)
  have HG4 : Hid (Grow w ((((w.alloc (.cells #[.slice al h.log.length cl, .int .i64 h.sums.a, .int .i64 h.sums.b, .int .i64 h.sums.c, .int .i64 h.sums.d, .slice ar h.ready.length cr, .slice ad h.done.length cd] 29)).alloc (.cells #[.int .i64 me] 3)).alloc (.cells #[.int .i64 1, .int .i64 dd, .int .i64 hh, .slice ap ps.length cp] 39)).alloc (.cells #[.slice none 0 0, .int .i64 0, .int .i64 0, .int .i64 0, .int .i64 0, .slice none 0 0, .slice none 0 0] 29))) := Lib.hid (((((Grow.refl w).alloc _).alloc _).alloc _).alloc _)
  have R3_0 : Hid (((((w.alloc (.cells #[.slice al h.log.length cl, .int .i64 h.sums.a, .int .i64 h.sums.b, .int .i64 h.sums.c, .int .i64 h.sums.d, .slice ar h.ready.length cr, .slice ad h.done.length cd] 29)).alloc (.cells #[.int .i64 me] 3)).alloc (.cells #[.int .i64 1, .int .i64 dd, .int .i64 hh, .slice ap ps.length cp] 39)).alloc (.cells #[.slice none 0 0, .int .i64 0, .int .i64 0, .int .i64 0, .int .i64 0, .slice none 0 0, .slice none 0 0] 29)).heap[w.heap.size]? = some (.cells #[.slice al h.log.length cl, .int .i64 h.sums.a, .int .i64 h.sums.b, .int .i64 h.sums.c, .int .i64 h.sums.d, .slice ar h.ready.length cr, .slice ad h.done.length cd] 29 (0, 0))) := Lib.hid (heap_later (heap_later (heap_later (row_new _ _) _) _) _)
  have R4_0 : Hid (((((w.alloc (.cells #[.slice al h.log.length cl, .int .i64 h.sums.a, .int .i64 h.sums.b, .int .i64 h.sums.c, .int .i64 h.sums.d, .slice ar h.ready.length cr, .slice ad h.done.length cd] 29)).alloc (.cells #[.int .i64 me] 3)).alloc (.cells #[.int .i64 1, .int .i64 dd, .int .i64 hh, .slice ap ps.length cp] 39)).alloc (.cells #[.slice none 0 0, .int .i64 0, .int .i64 0, .int .i64 0, .int .i64 0, .slice none 0 0, .slice none 0 0] 29)).heap[w.heap.size + 1]? = some (.cells #[.int .i64 me] 3 (0, 0))) := Lib.hid (heap_later (heap_later (by simpa using row_new (w.alloc (.cells #[.slice al h.log.length cl, .int .i64 h.sums.a, .int .i64 h.sums.b, .int .i64 h.sums.c, .int .i64 h.sums.d, .slice ar h.ready.length cr, .slice ad h.done.length cd] 29)) (.cells #[.int .i64 me] 3)) _) _)
  have R5_0 : Hid (((((w.alloc (.cells #[.slice al h.log.length cl, .int .i64 h.sums.a, .int .i64 h.sums.b, .int .i64 h.sums.c, .int .i64 h.sums.d, .slice ar h.ready.length cr, .slice ad h.done.length cd] 29)).alloc (.cells #[.int .i64 me] 3)).alloc (.cells #[.int .i64 1, .int .i64 dd, .int .i64 hh, .slice ap ps.length cp] 39)).alloc (.cells #[.slice none 0 0, .int .i64 0, .int .i64 0, .int .i64 0, .int .i64 0, .slice none 0 0, .slice none 0 0] 29)).heap[w.heap.size + 1 + 1]? = some (.cells #[.int .i64 1, .int .i64 dd, .int .i64 hh, .slice ap ps.length cp] 39 (0, 0))) := Lib.hid (heap_later (by simpa using row_new ((w.alloc (.cells #[.slice al h.log.length cl, .int .i64 h.sums.a, .int .i64 h.sums.b, .int .i64 h.sums.c, .int .i64 h.sums.d, .slice ar h.ready.length cr, .slice ad h.done.length cd] 29)).alloc (.cells #[.int .i64 me] 3)) (.cells #[.int .i64 1, .int .i64 dd, .int .i64 hh, .slice ap ps.length cp] 39)) _)
  have R6_0 : Hid (((((w.alloc (.cells #[.slice al h.log.length cl, .int .i64 h.sums.a, .int .i64 h.sums.b, .int .i64 h.sums.c, .int .i64 h.sums.d, .slice ar h.ready.length cr, .slice ad h.done.length cd] 29)).alloc (.cells #[.int .i64 me] 3)).alloc (.cells #[.int .i64 1, .int .i64 dd, .int .i64 hh, .slice ap ps.length cp] 39)).alloc (.cells #[.slice none 0 0, .int .i64 0, .int .i64 0, .int .i64 0, .int .i64 0, .slice none 0 0, .slice none 0 0] 29)).heap[w.heap.size + 1 + 1 + 1]? = some (.cells #[.slice none 0 0, .int .i64 0, .int .i64 0, .int .i64 0, .int .i64 0, .slice none 0 0, .slice none 0 0] 29 (0, 0))) := Lib.hid (by simpa using row_new (((w.alloc (.cells #[.slice al h.log.length cl, .int .i64 h.sums.a, .int .i64 h.sums.b, .int .i64 h.sums.c, .int .i64 h.sums.d, .slice ar h.ready.length cr, .slice ad h.done.length cd] 29)).alloc (.cells #[.int .i64 me] 3)).alloc (.cells #[.int .i64 1, .int .i64 dd, .int .i64 hh, .slice ap ps.length cp] 39)) (.cells #[.slice none 0 0, .int .i64 0, .int .i64 0, .int .i64 0, .int .i64 0, .slice none 0 0, .slice none 0 0] 29))
  clear hv hm hk hkm hn hp hpp hme hmd hms hlg
  have HEH : Hid (hearH h ⟨1, dd, hh, ps⟩ = h) := by
    show hearH h ⟨1, dd, hh, ps⟩ = h
    unfold hearH
    rw [if_pos rfl, if_neg (by show ¬ (voteE h dd ps = 0 ∧ _); rw [e10]; simp)]
  have HEM : Hid (hearM h me ⟨1, dd, hh, ps⟩ = []) := by
    show hearM h me ⟨1, dd, hh, ps⟩ = []
    unfold hearM
    rw [if_pos rfl, if_pos e10]
  have E10 := Lib.hid e10
  clear e10
  go_enter Try.func50, Try.ntmps50
  go_wp2_with fail
  refine (HHS.out _ HG4.out).mono ?_
  rintro e v0 ⟨vx, rfl, hX, hb0⟩
  obtain ⟨al2, cl2, ar2, cr2, ad2, cd2, rfl⟩ := hX.hs_form
  have HX0 : Hid (Of Ty.hs (win (((((w.alloc (.cells #[.slice al h.log.length cl, .int .i64 h.sums.a, .int .i64 h.sums.b, .int .i64 h.sums.c, .int .i64 h.sums.d, .slice ar h.ready.length cr, .slice ad h.done.length cd] 29)).alloc (.cells #[.int .i64 me] 3)).alloc (.cells #[.int .i64 1, .int .i64 dd, .int .i64 hh, .slice ap ps.length cp] 39)).alloc (.cells #[.slice none 0 0, .int .i64 0, .int .i64 0, .int .i64 0, .int .i64 0, .slice none 0 0, .slice none 0 0] 29))).heap.size v0.heap.size v0) _ h) := Lib.hid (hX.mono (win_ov _ _))
  have R3_v0 := Lib.hid (row_grow R3_0.out hb0)
  have R4_v0 := Lib.hid (row_grow R4_0.out hb0)
  have R5_v0 := Lib.hid (row_grow R5_0.out hb0)
  have R6_v0 := Lib.hid (row_grow R6_0.out hb0)
  have G_v0 := Lib.hid (HG4.out.trans hb0)
  clear hX hb0
  (try clear a0 a1 a2 a3 a4 a5 a6)
  (try clear b0)
  (try clear c0 c1 c2 c3)
  (try clear d0 d1 d2 d3 d4 d5 d6)
  obtain ⟨a0, a1, a2, a3, a4, a5, a6⟩ := cells7 R3_v0.out
  obtain ⟨c0, c1, c2, c3⟩ := cells4 R5_v0.out
  have R9n := row_new v0 (.cells #[.slice none 0 0, .int .i64 0, .int .i64 0, .int .i64 0, .int .i64 0, .slice none 0 0, .slice none 0 0] 29)
  go_wp2_with (first | (refine wpList_store_row rfl (.tmp 9) (.tmp 13) rfl rfl rfl R9n info_hs rfl rfl ?_))
  clear R9n
  intro v1 r1 g1
  have R9_v1 := Lib.hid r1
  have R3_v1 : Hid (v1.heap[w.heap.size]? = _) := Lib.hid (row_by (heap_later R3_v0.out _) g1 (by have := (Array.getElem?_eq_some_iff.1 R3_v0.out).1; simp; omega))
  have R4_v1 : Hid (v1.heap[w.heap.size + 1]? = _) := Lib.hid (row_by (heap_later R4_v0.out _) g1 (by have := (Array.getElem?_eq_some_iff.1 R4_v0.out).1; simp; omega))
  have R5_v1 : Hid (v1.heap[w.heap.size + 1 + 1]? = _) := Lib.hid (row_by (heap_later R5_v0.out _) g1 (by have := (Array.getElem?_eq_some_iff.1 R5_v0.out).1; simp; omega))
  have R6_v1 : Hid (v1.heap[w.heap.size + 1 + 1 + 1]? = _) := Lib.hid (row_by (heap_later R6_v0.out _) g1 (by have := (Array.getElem?_eq_some_iff.1 R6_v0.out).1; simp; omega))
  have G_v1 := Lib.hid ((G_v0.out.alloc (.cells #[.slice none 0 0, .int .i64 0, .int .i64 0, .int .i64 0, .int .i64 0, .slice none 0 0, .slice none 0 0] 29)).grown g1 (fun k hk => by have := G_v0.out.size; simp at hk; omega))
  have HY_v1 := Lib.hid ((HX0.out.mono (win_grow ((Grow.refl v0).alloc _) _ _)).mono (win_set g1 (.inr (Nat.le_refl _))))
  have HZ9 : Hid (w.heap.size + 1 + 1 + 1 < v0.heap.size) := Lib.hid (Array.getElem?_eq_some_iff.1 R6_v0.out).1
  have HLO : Hid (w.heap.size + 1 + 1 + 1 < (((((w.alloc (.cells #[.slice al h.log.length cl, .int .i64 h.sums.a, .int .i64 h.sums.b, .int .i64 h.sums.c, .int .i64 h.sums.d, .slice ar h.ready.length cr, .slice ad h.done.length cd] 29)).alloc (.cells #[.int .i64 me] 3)).alloc (.cells #[.int .i64 1, .int .i64 dd, .int .i64 hh, .slice ap ps.length cp] 39)).alloc (.cells #[.slice none 0 0, .int .i64 0, .int .i64 0, .int .i64 0, .int .i64 0, .slice none 0 0, .slice none 0 0] 29))).heap.size ∧ w.heap.size ≤ (((((w.alloc (.cells #[.slice al h.log.length cl, .int .i64 h.sums.a, .int .i64 h.sums.b, .int .i64 h.sums.c, .int .i64 h.sums.d, .slice ar h.ready.length cr, .slice ad h.done.length cd] 29)).alloc (.cells #[.int .i64 me] 3)).alloc (.cells #[.int .i64 1, .int .i64 dd, .int .i64 hh, .slice ap ps.length cp] 39)).alloc (.cells #[.slice none 0 0, .int .i64 0, .int .i64 0, .int .i64 0, .int .i64 0, .slice none 0 0, .slice none 0 0] 29))).heap.size) := Lib.hid (by simp; omega)
  have HNB : Hid (w.heap.size + 1 + 1 + 1 ≤ v1.heap.size) := Lib.hid (by have := G_v1.out.size; exact Nat.le_of_lt (Array.getElem?_eq_some_iff.1 R6_v1.out).1)
  clear r1 g1 HX0
  (try clear a0 a1 a2 a3 a4 a5 a6)
  (try clear b0)
  (try clear c0 c1 c2 c3)
  (try clear d0 d1 d2 d3 d4 d5 d6)
  obtain ⟨a0, a1, a2, a3, a4, a5, a6⟩ := cells7 R3_v1.out
  obtain ⟨c0, c1, c2, c3⟩ := cells4 R5_v1.out
  obtain ⟨d0, d1, d2, d3, d4, d5, d6⟩ := cells7 R9_v1.out
  go_wp2_with fail
  refine (HVO.out _ G_v1.out).mono ?_
  rw [E10.out]
  rintro e v2 ⟨rfl, hbv2⟩
  have R3_v2 := Lib.hid (row_grow R3_v1.out hbv2)
  have R4_v2 := Lib.hid (row_grow R4_v1.out hbv2)
  have R5_v2 := Lib.hid (row_grow R5_v1.out hbv2)
  have R6_v2 := Lib.hid (row_grow R6_v1.out hbv2)
  have R9_v2 := Lib.hid (row_grow R9_v1.out hbv2)
  have G_v2 := Lib.hid (G_v1.out.trans hbv2)
  have HY_v2 := Lib.hid (HY_v1.out.mono (win_grow hbv2 _ _))
  clear hbv2
  (try clear a0 a1 a2 a3 a4 a5 a6)
  (try clear b0)
  (try clear c0 c1 c2 c3)
  (try clear d0 d1 d2 d3 d4 d5 d6)
  obtain ⟨a0, a1, a2, a3, a4, a5, a6⟩ := cells7 R3_v2.out
  obtain ⟨c0, c1, c2, c3⟩ := cells4 R5_v2.out
  obtain ⟨d0, d1, d2, d3, d4, d5, d6⟩ := cells7 R9_v2.out
  go_wp2_with (first | (refine wpList_store_row rfl (.tmp 6) (.tmp 42) rfl rfl rfl R6_v2.out info_hs rfl rfl ?_))
  intro w7 r7 g7
  obtain ⟨p0, p1, p2, p3, p4, p5, p6⟩ := cells7 r7
  (try clear a0 a1 a2 a3 a4 a5 a6)
  (try clear c0 c1 c2 c3)
  (try clear d0 d1 d2 d3 d4 d5 d6)
  go_wp2
  refine bodyPost_ret (v := .tuple #[.agg #[.slice al2 h.log.length cl2, .int .i64 h.sums.a, .int .i64 h.sums.b, .int .i64 h.sums.c, .int .i64 h.sums.d, .slice ar2 h.ready.length cr2, .slice ad2 h.done.length cd2], .slice none 0 0]) (by simp [results, Try.results50, go_sem, p0, p1, p2, p3, p4, p5, p6]) rfl ?_
  rw [HEH.out, HEM.out]
  refine ⟨_, _, rfl, (HY_v2.out.mono (win_set g7 (.inl HLO.out.1))).mono (win_ovn HLO.out.2), Sl.nil _ _, G_v2.out.grown g7 (fun k hk => by simp at hk; omega)⟩
set_option maxRecDepth 100000 in
set_option maxHeartbeats 2000000 in
theorem phear_prepR {v vm : Value} {h : Hs} {dd hh me : Int} {ps : List Pt} (w : World) (hv : Of Ty.hs w.cell? v h) (hm : Of Ty.ms w.cell? vm ⟨1, dd, hh, ps⟩) (hk : ∀ x ∈ h.log, KeysOk x.parts) (hkm : KeysOk ps) (hn : (h.log.length + 1) * 40 ≤ 140737488351232)
    (hp : ∀ x ∈ h.log, x.parts.length * 24 ≤ 140737488355328) (hpp : ps.length * 24 ≤ 140737488355328) (hme : I64 me) (hmd : Made h) (e0 : voteE h dd ps = 0) (rd : readyE h.ready dd = true) :
    Calls Try.prog 50 #[v, .int .i64 me, vm] w fun e w' => ∃ v1 v2, e = .returned (.tuple #[v1, v2]) ∧ Of Ty.hs (ov (fun _ => none) w w') v1 (hearH h ⟨1, dd, hh, ps⟩) ∧ Sl Ty.ms (ov (fun _ => none) w w') v2 (hearM h me ⟨1, dd, hh, ps⟩) ∧ Grow w w' := by
  obtain ⟨al, cl, ar, cr, ad, cd, rfl⟩ := hv.hs_form
  obtain ⟨ap, cp, rfl⟩ : ∃ ap cp, vm = .agg #[.int .i64 1, .int .i64 dd, .int .i64 hh, .slice ap ps.length cp] := hm.ms_form
  have hms : Sl Ty.pt w.cell? (.slice ap ps.length cp) ps ∧ I64 1 ∧ I64 dd ∧ I64 hh := Of.ms_parts hm
  have hlg := (Of.hs_log hv).1
  have HMS := Lib.hid hms
  have HV0 := Lib.hid hv
  have HME := Lib.hid hme
  have HVO := Lib.hid (fun (W : World) (hW : Grow w W) => house_vote (d := dd) W (hv.mono hW.sub) (hms.1.mono hW.sub) hkm)
  have HIS := Lib.hid (fun (W : World) (hW : Grow w W) hb hc => house_is (B := w.heap.size) (d := dd) W hb hc ((Of.hs_log hv).2.1.mono hW.sub))
  have HHS : Hid (∀ (W : World), Grow w W → Calls Try.prog 36 #[.slice al h.log.length cl] W fun e w' => ∃ v', e = .returned v' ∧ Of Ty.hs (ov (fun _ => none) W w') v' h ∧ Grow W w') := Lib.hid (fun (W : World) (hW : Grow w W) => by
    have hx := wlog_house W (hlg.mono hW.sub) hk (by omega) hp
    rw [← (show h = houseR h.log from hmd)] at hx
    exact hx)
  have HNT := Lib.hid (fun (r : Rc) (vr : Value) (W : World) (hW : Grow w W) (hr : Of Ty.rc W.cell? vr r) (hkr : KeysOk r.parts) (hpr : r.parts.length * 24 ≤ 140737488355328) => wlog_note W (hv.mono hW.sub) hr hk hkr (by omega) hp hpr)
  have HKP := Lib.hid (And.intro hkm hpp)
  have HG4 : Hid (Grow w ((((w.alloc (.cells #[.slice al h.log.length cl, .int .i64 h.sums.a, .int .i64 h.sums.b, .int .i64 h.sums.c, .int .i64 h.sums.d, .slice ar h.ready.length cr, .slice ad h.done.length cd] 29)).alloc (.cells #[.int .i64 me] 3)).alloc (.cells #[.int .i64 1, .int .i64 dd, .int .i64 hh, .slice ap ps.length cp] 39)).alloc (.cells #[.slice none 0 0, .int .i64 0, .int .i64 0, .int .i64 0, .int .i64 0, .slice none 0 0, .slice none 0 0] 29))) := Lib.hid (((((Grow.refl w).alloc _).alloc _).alloc _).alloc _)
  have R3_0 : Hid (((((w.alloc (.cells #[.slice al h.log.length cl, .int .i64 h.sums.a, .int .i64 h.sums.b, .int .i64 h.sums.c, .int .i64 h.sums.d, .slice ar h.ready.length cr, .slice ad h.done.length cd] 29)).alloc (.cells #[.int .i64 me] 3)).alloc (.cells #[.int .i64 1, .int .i64 dd, .int .i64 hh, .slice ap ps.length cp] 39)).alloc (.cells #[.slice none 0 0, .int .i64 0, .int .i64 0, .int .i64 0, .int .i64 0, .slice none 0 0, .slice none 0 0] 29)).heap[w.heap.size]? = some (.cells #[.slice al h.log.length cl, .int .i64 h.sums.a, .int .i64 h.sums.b, .int .i64 h.sums.c, .int .i64 h.sums.d, .slice ar h.ready.length cr, .slice ad h.done.length cd] 29 (0, 0))) := Lib.hid (heap_later (heap_later (heap_later (row_new _ _) _) _) _)
  have R4_0 : Hid (((((w.alloc (.cells #[.slice al h.log.length cl, .int .i64 h.sums.a, .int .i64 h.sums.b, .int .i64 h.sums.c, .int .i64 h.sums.d, .slice ar h.ready.length cr, .slice ad h.done.length cd] 29)).alloc (.cells #[.int .i64 me] 3)).alloc (.cells #[.int .i64 1, .int .i64 dd, .int .i64 hh, .slice ap ps.length cp] 39)).alloc (.cells #[.slice none 0 0, .int .i64 0, .int .i64 0, .int .i64 0, .int .i64 0, .slice none 0 0, .slice none 0 0] 29)).heap[w.heap.size + 1]? = some (.cells #[.int .i64 me] 3 (0, 0))) := Lib.hid (heap_later (heap_later (by simpa using row_new (w.alloc (.cells #[.slice al h.log.length cl, .int .i64 h.sums.a, .int .i64 h.sums.b, .int .i64 h.sums.c, .int .i64 h.sums.d, .slice ar h.ready.length cr, .slice ad h.done.length cd] 29)) (.cells #[.int .i64 me] 3)) _) _)
  have R5_0 : Hid (((((w.alloc (.cells #[.slice al h.log.length cl, .int .i64 h.sums.a, .int .i64 h.sums.b, .int .i64 h.sums.c, .int .i64 h.sums.d, .slice ar h.ready.length cr, .slice ad h.done.length cd] 29)).alloc (.cells #[.int .i64 me] 3)).alloc (.cells #[.int .i64 1, .int .i64 dd, .int .i64 hh, .slice ap ps.length cp] 39)).alloc (.cells #[.slice none 0 0, .int .i64 0, .int .i64 0, .int .i64 0, .int .i64 0, .slice none 0 0, .slice none 0 0] 29)).heap[w.heap.size + 1 + 1]? = some (.cells #[.int .i64 1, .int .i64 dd, .int .i64 hh, .slice ap ps.length cp] 39 (0, 0))) := Lib.hid (heap_later (by simpa using row_new ((w.alloc (.cells #[.slice al h.log.length cl, .int .i64 h.sums.a, .int .i64 h.sums.b, .int .i64 h.sums.c, .int .i64 h.sums.d, .slice ar h.ready.length cr, .slice ad h.done.length cd] 29)).alloc (.cells #[.int .i64 me] 3)) (.cells #[.int .i64 1, .int .i64 dd, .int .i64 hh, .slice ap ps.length cp] 39)) _)
  have R6_0 : Hid (((((w.alloc (.cells #[.slice al h.log.length cl, .int .i64 h.sums.a, .int .i64 h.sums.b, .int .i64 h.sums.c, .int .i64 h.sums.d, .slice ar h.ready.length cr, .slice ad h.done.length cd] 29)).alloc (.cells #[.int .i64 me] 3)).alloc (.cells #[.int .i64 1, .int .i64 dd, .int .i64 hh, .slice ap ps.length cp] 39)).alloc (.cells #[.slice none 0 0, .int .i64 0, .int .i64 0, .int .i64 0, .int .i64 0, .slice none 0 0, .slice none 0 0] 29)).heap[w.heap.size + 1 + 1 + 1]? = some (.cells #[.slice none 0 0, .int .i64 0, .int .i64 0, .int .i64 0, .int .i64 0, .slice none 0 0, .slice none 0 0] 29 (0, 0))) := Lib.hid (by simpa using row_new (((w.alloc (.cells #[.slice al h.log.length cl, .int .i64 h.sums.a, .int .i64 h.sums.b, .int .i64 h.sums.c, .int .i64 h.sums.d, .slice ar h.ready.length cr, .slice ad h.done.length cd] 29)).alloc (.cells #[.int .i64 me] 3)).alloc (.cells #[.int .i64 1, .int .i64 dd, .int .i64 hh, .slice ap ps.length cp] 39)) (.cells #[.slice none 0 0, .int .i64 0, .int .i64 0, .int .i64 0, .int .i64 0, .slice none 0 0, .slice none 0 0] 29))
  clear hv hm hk hkm hn hp hpp hme hmd hms hlg
  have HEH : Hid (hearH h ⟨1, dd, hh, ps⟩ = h) := by
    show hearH h ⟨1, dd, hh, ps⟩ = h
    unfold hearH
    rw [if_pos rfl, if_neg (by show ¬ (_ ∧ readyE h.ready dd = false); rw [rd]; simp)]
  have HEM : Hid (hearM h me ⟨1, dd, hh, ps⟩ = sayE 2 dd me) := by
    show hearM h me ⟨1, dd, hh, ps⟩ = sayE 2 dd me
    unfold hearM
    rw [if_pos rfl, if_neg (by show ¬ voteE h dd ps = 10; omega), if_pos e0]
  have E0 := Lib.hid e0
  have RD := Lib.hid rd
  clear e0 rd
  go_enter Try.func50, Try.ntmps50
  go_wp2_with fail
  refine (HHS.out _ HG4.out).mono ?_
  rintro e v0 ⟨vx, rfl, hX, hb0⟩
  obtain ⟨al2, cl2, ar2, cr2, ad2, cd2, rfl⟩ := hX.hs_form
  have HX0 : Hid (Of Ty.hs (win (((((w.alloc (.cells #[.slice al h.log.length cl, .int .i64 h.sums.a, .int .i64 h.sums.b, .int .i64 h.sums.c, .int .i64 h.sums.d, .slice ar h.ready.length cr, .slice ad h.done.length cd] 29)).alloc (.cells #[.int .i64 me] 3)).alloc (.cells #[.int .i64 1, .int .i64 dd, .int .i64 hh, .slice ap ps.length cp] 39)).alloc (.cells #[.slice none 0 0, .int .i64 0, .int .i64 0, .int .i64 0, .int .i64 0, .slice none 0 0, .slice none 0 0] 29))).heap.size v0.heap.size v0) _ h) := Lib.hid (hX.mono (win_ov _ _))
  have R3_v0 := Lib.hid (row_grow R3_0.out hb0)
  have R4_v0 := Lib.hid (row_grow R4_0.out hb0)
  have R5_v0 := Lib.hid (row_grow R5_0.out hb0)
  have R6_v0 := Lib.hid (row_grow R6_0.out hb0)
  have G_v0 := Lib.hid (HG4.out.trans hb0)
  clear hX hb0
  (try clear a0 a1 a2 a3 a4 a5 a6)
  (try clear b0)
  (try clear c0 c1 c2 c3)
  (try clear d0 d1 d2 d3 d4 d5 d6)
  obtain ⟨a0, a1, a2, a3, a4, a5, a6⟩ := cells7 R3_v0.out
  obtain ⟨c0, c1, c2, c3⟩ := cells4 R5_v0.out
  have R9n := row_new v0 (.cells #[.slice none 0 0, .int .i64 0, .int .i64 0, .int .i64 0, .int .i64 0, .slice none 0 0, .slice none 0 0] 29)
  go_wp2_with (first | (refine wpList_store_row rfl (.tmp 9) (.tmp 13) rfl rfl rfl R9n info_hs rfl rfl ?_))
  clear R9n
  intro v1 r1 g1
  have R9_v1 := Lib.hid r1
  have R3_v1 : Hid (v1.heap[w.heap.size]? = _) := Lib.hid (row_by (heap_later R3_v0.out _) g1 (by have := (Array.getElem?_eq_some_iff.1 R3_v0.out).1; simp; omega))
  have R4_v1 : Hid (v1.heap[w.heap.size + 1]? = _) := Lib.hid (row_by (heap_later R4_v0.out _) g1 (by have := (Array.getElem?_eq_some_iff.1 R4_v0.out).1; simp; omega))
  have R5_v1 : Hid (v1.heap[w.heap.size + 1 + 1]? = _) := Lib.hid (row_by (heap_later R5_v0.out _) g1 (by have := (Array.getElem?_eq_some_iff.1 R5_v0.out).1; simp; omega))
  have R6_v1 : Hid (v1.heap[w.heap.size + 1 + 1 + 1]? = _) := Lib.hid (row_by (heap_later R6_v0.out _) g1 (by have := (Array.getElem?_eq_some_iff.1 R6_v0.out).1; simp; omega))
  have G_v1 := Lib.hid ((G_v0.out.alloc (.cells #[.slice none 0 0, .int .i64 0, .int .i64 0, .int .i64 0, .int .i64 0, .slice none 0 0, .slice none 0 0] 29)).grown g1 (fun k hk => by have := G_v0.out.size; simp at hk; omega))
  have HY_v1 := Lib.hid ((HX0.out.mono (win_grow ((Grow.refl v0).alloc _) _ _)).mono (win_set g1 (.inr (Nat.le_refl _))))
  have HZ9 : Hid (w.heap.size + 1 + 1 + 1 < v0.heap.size) := Lib.hid (Array.getElem?_eq_some_iff.1 R6_v0.out).1
  have HLO : Hid (w.heap.size + 1 + 1 + 1 < (((((w.alloc (.cells #[.slice al h.log.length cl, .int .i64 h.sums.a, .int .i64 h.sums.b, .int .i64 h.sums.c, .int .i64 h.sums.d, .slice ar h.ready.length cr, .slice ad h.done.length cd] 29)).alloc (.cells #[.int .i64 me] 3)).alloc (.cells #[.int .i64 1, .int .i64 dd, .int .i64 hh, .slice ap ps.length cp] 39)).alloc (.cells #[.slice none 0 0, .int .i64 0, .int .i64 0, .int .i64 0, .int .i64 0, .slice none 0 0, .slice none 0 0] 29))).heap.size ∧ w.heap.size ≤ (((((w.alloc (.cells #[.slice al h.log.length cl, .int .i64 h.sums.a, .int .i64 h.sums.b, .int .i64 h.sums.c, .int .i64 h.sums.d, .slice ar h.ready.length cr, .slice ad h.done.length cd] 29)).alloc (.cells #[.int .i64 me] 3)).alloc (.cells #[.int .i64 1, .int .i64 dd, .int .i64 hh, .slice ap ps.length cp] 39)).alloc (.cells #[.slice none 0 0, .int .i64 0, .int .i64 0, .int .i64 0, .int .i64 0, .slice none 0 0, .slice none 0 0] 29))).heap.size) := Lib.hid (by simp; omega)
  have HNB : Hid (w.heap.size + 1 + 1 + 1 ≤ v1.heap.size) := Lib.hid (by have := G_v1.out.size; exact Nat.le_of_lt (Array.getElem?_eq_some_iff.1 R6_v1.out).1)
  clear r1 g1 HX0
  (try clear a0 a1 a2 a3 a4 a5 a6)
  (try clear b0)
  (try clear c0 c1 c2 c3)
  (try clear d0 d1 d2 d3 d4 d5 d6)
  obtain ⟨a0, a1, a2, a3, a4, a5, a6⟩ := cells7 R3_v1.out
  obtain ⟨c0, c1, c2, c3⟩ := cells4 R5_v1.out
  obtain ⟨d0, d1, d2, d3, d4, d5, d6⟩ := cells7 R9_v1.out
  go_wp2_with fail
  refine (HVO.out _ G_v1.out).mono ?_
  rw [E0.out]
  rintro e v2 ⟨rfl, hbv2⟩
  have R3_v2 := Lib.hid (row_grow R3_v1.out hbv2)
  have R4_v2 := Lib.hid (row_grow R4_v1.out hbv2)
  have R5_v2 := Lib.hid (row_grow R5_v1.out hbv2)
  have R6_v2 := Lib.hid (row_grow R6_v1.out hbv2)
  have R9_v2 := Lib.hid (row_grow R9_v1.out hbv2)
  have G_v2 := Lib.hid (G_v1.out.trans hbv2)
  have HY_v2 := Lib.hid (HY_v1.out.mono (win_grow hbv2 _ _))
  clear hbv2
  (try clear a0 a1 a2 a3 a4 a5 a6)
  (try clear b0)
  (try clear c0 c1 c2 c3)
  (try clear d0 d1 d2 d3 d4 d5 d6)
  obtain ⟨a0, a1, a2, a3, a4, a5, a6⟩ := cells7 R3_v2.out
  obtain ⟨c0, c1, c2, c3⟩ := cells4 R5_v2.out
  obtain ⟨d0, d1, d2, d3, d4, d5, d6⟩ := cells7 R9_v2.out
  go_wp2_with fail
  refine (HIS.out _ G_v2.out (Array.getElem?_eq_some_iff.1 R3_v2.out).1 (cells7 R3_v2.out).2.2.2.2.2.1).mono ?_
  rw [RD.out]
  rintro e v3 ⟨rfl, hbv3⟩
  have R3_v3 := Lib.hid (row_grow R3_v2.out hbv3)
  have R4_v3 := Lib.hid (row_grow R4_v2.out hbv3)
  have R5_v3 := Lib.hid (row_grow R5_v2.out hbv3)
  have R6_v3 := Lib.hid (row_grow R6_v2.out hbv3)
  have R9_v3 := Lib.hid (row_grow R9_v2.out hbv3)
  have G_v3 := Lib.hid (G_v2.out.trans hbv3)
  have HY_v3 := Lib.hid (HY_v2.out.mono (win_grow hbv3 _ _))
  clear hbv3
  (try clear a0 a1 a2 a3 a4 a5 a6)
  (try clear b0)
  (try clear c0 c1 c2 c3)
  (try clear d0 d1 d2 d3 d4 d5 d6)
  obtain ⟨a0, a1, a2, a3, a4, a5, a6⟩ := cells7 R3_v3.out
  obtain ⟨c0, c1, c2, c3⟩ := cells4 R5_v3.out
  obtain ⟨d0, d1, d2, d3, d4, d5, d6⟩ := cells7 R9_v3.out
  go_wp2_with fail
  have HS : Hid (∀ W, v3.grownBy W (some (w.heap.size + 1 + 1 + 1)) → W.cell? ⟨v0.heap.size, 0, none⟩ = some (.slice al2 h.log.length cl2) ∧ W.cell? ⟨v0.heap.size, 1, none⟩ = some (.int .i64 h.sums.a) ∧ W.cell? ⟨v0.heap.size, 2, none⟩ = some (.int .i64 h.sums.b) ∧ W.cell? ⟨v0.heap.size, 3, none⟩ = some (.int .i64 h.sums.c) ∧ W.cell? ⟨v0.heap.size, 4, none⟩ = some (.int .i64 h.sums.d) ∧ W.cell? ⟨v0.heap.size, 5, none⟩ = some (.slice ar2 h.ready.length cr2) ∧ W.cell? ⟨v0.heap.size, 6, none⟩ = some (.slice ad2 h.done.length cd2) ∧ W.cell? ⟨w.heap.size + 1 + 1, 1, none⟩ = some (.int .i64 dd) ∧ W.cell? ⟨w.heap.size + 1, 0, none⟩ = some (.int .i64 me)) := fun W hW => by
    have k : ∀ (b o : Nat) (u : Value), b ≠ w.heap.size + 1 + 1 + 1 → v3.cell? ⟨b, o, none⟩ = some u → W.cell? ⟨b, o, none⟩ = some u := fun b o u hb e => by
      rw [by_cell hW (World.block_lt_of_cell? v3 _ e) hb]; exact e
    obtain ⟨d0, d1, d2, d3, d4, d5, d6⟩ := cells7 R9_v3.out
    obtain ⟨-, c1, -, -⟩ := cells4 R5_v3.out
    have hz := HZ9.out
    exact ⟨k _ _ _ (by omega) d0, k _ _ _ (by omega) d1, k _ _ _ (by omega) d2, k _ _ _ (by omega) d3, k _ _ _ (by omega) d4, k _ _ _ (by omega) d5, k _ _ _ (by omega) d6, k _ _ _ (by omega) c1, k _ _ _ (by omega) (cell1 R4_v3.out)⟩
  (try clear a0 a1 a2 a3 a4 a5 a6)
  (try clear c0 c1 c2 c3)
  (try clear d0 d1 d2 d3 d4 d5 d6)
  refine but_start (fun w' => w'.cell? ⟨v0.heap.size, 0, none⟩ = some (.slice al2 h.log.length cl2) ∧ w'.cell? ⟨v0.heap.size, 1, none⟩ = some (.int .i64 h.sums.a) ∧ w'.cell? ⟨v0.heap.size, 2, none⟩ = some (.int .i64 h.sums.b) ∧ w'.cell? ⟨v0.heap.size, 3, none⟩ = some (.int .i64 h.sums.c) ∧ w'.cell? ⟨v0.heap.size, 4, none⟩ = some (.int .i64 h.sums.d) ∧ w'.cell? ⟨v0.heap.size, 5, none⟩ = some (.slice ar2 h.ready.length cr2) ∧ w'.cell? ⟨v0.heap.size, 6, none⟩ = some (.slice ad2 h.done.length cd2) ∧ w'.cell? ⟨w.heap.size + 1 + 1, 1, none⟩ = some (.int .i64 dd) ∧ w'.cell? ⟨w.heap.size + 1, 0, none⟩ = some (.int .i64 me)) 4 (by kernel_rfl) ?_
  obtain ⟨wd, hWd⟩ : ∃ x : World, x = v3.drew := ⟨_, rfl⟩
  rw [← hWd]
  have GD : Grow v3 wd := by rw [hWd]; exact (Grow.refl _).drew
  have zD : v3.heap.size = wd.heap.size := by rw [hWd]; rfl
  have ZD := Lib.hid zD
  clear hWd zD
  refine but_take (i := 0) (v := ?_) 6 rfl (by kernel_rfl) (by kernel_rfl) (by kernel_rfl) (by kernel_rfl) (by kernel_rfl) (fun _ _ _ h => h) (HS.out _ (grownBy_of_grow GD _)) (Or.inl ⟨by rfl, ?_⟩) ?_
  rotate_left
  · (intro w' hSw; (try dsimp only at hSw); obtain ⟨hs0, hs1, hs2, hs3, hs4, hs5, hs6, hs7, hs8⟩ := hSw; go_simp <;> with_reducible rfl)
  try simp only [Act.put, List.getElem_toArray, List.getElem_cons_zero, List.setIfInBounds_toArray, List.set_cons_zero, List.set_cons_succ]
  refine but_take (i := 1) (v := ?_) 6 rfl (by kernel_rfl) (by kernel_rfl) (by kernel_rfl) (by kernel_rfl) (by kernel_rfl) (fun _ _ _ h => h) (HS.out _ (grownBy_of_grow GD _)) (Or.inl ⟨by rfl, ?_⟩) ?_
  rotate_left
  · (intro w' hSw; (try dsimp only at hSw); obtain ⟨hs0, hs1, hs2, hs3, hs4, hs5, hs6, hs7, hs8⟩ := hSw; go_simp <;> with_reducible rfl)
  try simp only [Act.put, List.getElem_toArray, List.getElem_cons_succ, List.getElem_cons_zero, List.setIfInBounds_toArray, List.set_cons_zero, List.set_cons_succ]
  refine but_one (i := 2) (by kernel_rfl) rfl ?_
  intro K HK'
  have HK := Lib.hid HK'
  clear HK'
  skip
  try simp only [List.getElem_toArray, List.getElem_cons_succ, List.getElem_cons_zero]
  go_simp
  go_at_call 126
  refine (house_say (B5 := w.heap.size + 1 + 1) (B4 := w.heap.size + 1) wd (HS.out _ (grownBy_of_grow GD _)).2.2.2.2.2.2.2.1 (HS.out _ (grownBy_of_grow GD _)).2.2.2.2.2.2.2.2 (Nat.lt_of_lt_of_le (Array.getElem?_eq_some_iff.1 R5_v3.out).1 GD.size) (Nat.lt_of_lt_of_le (Array.getElem?_eq_some_iff.1 R4_v3.out).1 GD.size) (show I64 2 from by unfold I64; decide) HMS.out.2.2.1 HME.out).mono ?_
  rintro e wq ⟨vq, rfl, hq, hbq⟩
  have HQ : Hid (Sl Ty.ms (win wd.heap.size wq.heap.size wq) vq (sayE 2 dd me)) := Lib.hid (hq.mono (win_ov _ _))
  have HBQ := Lib.hid hbq
  clear hq hbq
  refine HK.out _ _ ⟨fun _ => HS.out _ (grownBy_of_grow (GD.trans HBQ.out) _), ?_⟩
  clear HK K
  try simp only [Act.put, List.getElem_toArray, List.getElem_cons_succ, List.getElem_cons_zero, List.setIfInBounds_toArray, List.set_cons_zero, List.set_cons_succ]
  refine but_one (i := 3) (by kernel_rfl) rfl ?_
  intro K HK'
  have HK := Lib.hid HK'
  clear HK'
  refine wanted_go rfl ?_
  try simp only [List.getElem_toArray, List.getElem_cons_succ, List.getElem_cons_zero]
  refine wp_store_row (.tmp 6) (.tmp 37) rfl rfl rfl (row_grow R6_v3.out (GD.trans HBQ.out)) info_hs rfl rfl ?_
  intro w7 r7 g7
  refine HK.out _ _ ⟨fun _ => HS.out _ (grownBy_trans (grownBy_of_grow (GD.trans HBQ.out) _) g7), ?_⟩
  clear HK K
  try simp only [Act.put]
  refine but_one (i := 4) (by kernel_rfl) rfl ?_
  intro K HK'
  have HK := Lib.hid HK'
  clear HK'
  skip
  try simp only [List.getElem_toArray, List.getElem_cons_succ, List.getElem_cons_zero]
  go_simp
  refine HK.out _ _ ⟨fun h => absurd rfl h, ?_⟩
  clear HK K
  try simp only [Act.put, List.getElem_toArray, List.getElem_cons_succ, List.getElem_cons_zero, List.setIfInBounds_toArray, List.set_cons_zero, List.set_cons_succ]
  refine but_done (by kernel_rfl) ?_
  obtain ⟨p0, p1, p2, p3, p4, p5, p6⟩ := cells7 r7
  go_wp2
  refine bodyPost_ret (v := .tuple #[.agg #[.slice al2 h.log.length cl2, .int .i64 h.sums.a, .int .i64 h.sums.b, .int .i64 h.sums.c, .int .i64 h.sums.d, .slice ar2 h.ready.length cr2, .slice ad2 h.done.length cd2], vq]) (by simp [results, Try.results50, go_sem, p0, p1, p2, p3, p4, p5, p6]) rfl ?_
  rw [HEH.out, HEM.out]
  have hzd : w.heap.size ≤ wd.heap.size := (G_v3.out.trans GD).size
  have h6 : w.heap.size + 1 + 1 + 1 < wd.heap.size := Nat.lt_of_lt_of_le (Array.getElem?_eq_some_iff.1 R6_v3.out).1 GD.size
  refine ⟨_, _, rfl, (((HY_v3.out.mono (win_grow (GD.trans HBQ.out) _ _)).mono (win_set g7 (.inl HLO.out.1))).mono (win_ovn HLO.out.2)), ((HQ.out.mono (win_set g7 (.inl h6))).mono (win_ovn hzd)), ((G_v3.out.trans GD).trans HBQ.out).grown g7 (fun k hk => by simp at hk; omega)⟩
set_option maxRecDepth 100000 in
set_option maxHeartbeats 2000000 in
theorem phear_prepF {v vm : Value} {h : Hs} {dd hh me : Int} {ps : List Pt} (w : World) (hv : Of Ty.hs w.cell? v h) (hm : Of Ty.ms w.cell? vm ⟨1, dd, hh, ps⟩) (hk : ∀ x ∈ h.log, KeysOk x.parts) (hkm : KeysOk ps) (hn : (h.log.length + 1) * 40 ≤ 140737488351232)
    (hp : ∀ x ∈ h.log, x.parts.length * 24 ≤ 140737488355328) (hpp : ps.length * 24 ≤ 140737488355328) (hme : I64 me) (hmd : Made h) (e10 : ¬ voteE h dd ps = 10) (e0 : ¬ voteE h dd ps = 0) :
    Calls Try.prog 50 #[v, .int .i64 me, vm] w fun e w' => ∃ v1 v2, e = .returned (.tuple #[v1, v2]) ∧ Of Ty.hs (ov (fun _ => none) w w') v1 (hearH h ⟨1, dd, hh, ps⟩) ∧ Sl Ty.ms (ov (fun _ => none) w w') v2 (hearM h me ⟨1, dd, hh, ps⟩) ∧ Grow w w' := by
  obtain ⟨al, cl, ar, cr, ad, cd, rfl⟩ := hv.hs_form
  obtain ⟨ap, cp, rfl⟩ : ∃ ap cp, vm = .agg #[.int .i64 1, .int .i64 dd, .int .i64 hh, .slice ap ps.length cp] := hm.ms_form
  have hms : Sl Ty.pt w.cell? (.slice ap ps.length cp) ps ∧ I64 1 ∧ I64 dd ∧ I64 hh := Of.ms_parts hm
  have hlg := (Of.hs_log hv).1
  have HMS := Lib.hid hms
  have HV0 := Lib.hid hv
  have HME := Lib.hid hme
  have HVO := Lib.hid (fun (W : World) (hW : Grow w W) => house_vote (d := dd) W (hv.mono hW.sub) (hms.1.mono hW.sub) hkm)
  have HIS := Lib.hid (fun (W : World) (hW : Grow w W) hb hc => house_is (B := w.heap.size) (d := dd) W hb hc ((Of.hs_log hv).2.1.mono hW.sub))
  have HHS : Hid (∀ (W : World), Grow w W → Calls Try.prog 36 #[.slice al h.log.length cl] W fun e w' => ∃ v', e = .returned v' ∧ Of Ty.hs (ov (fun _ => none) W w') v' h ∧ Grow W w') := Lib.hid (fun (W : World) (hW : Grow w W) => by
    have hx := wlog_house W (hlg.mono hW.sub) hk (by omega) hp
    rw [← (show h = houseR h.log from hmd)] at hx
    exact hx)
  have HNT := Lib.hid (fun (r : Rc) (vr : Value) (W : World) (hW : Grow w W) (hr : Of Ty.rc W.cell? vr r) (hkr : KeysOk r.parts) (hpr : r.parts.length * 24 ≤ 140737488355328) => wlog_note W (hv.mono hW.sub) hr hk hkr (by omega) hp hpr)
  have HKP := Lib.hid (And.intro hkm hpp)
  have HG4 : Hid (Grow w ((((w.alloc (.cells #[.slice al h.log.length cl, .int .i64 h.sums.a, .int .i64 h.sums.b, .int .i64 h.sums.c, .int .i64 h.sums.d, .slice ar h.ready.length cr, .slice ad h.done.length cd] 29)).alloc (.cells #[.int .i64 me] 3)).alloc (.cells #[.int .i64 1, .int .i64 dd, .int .i64 hh, .slice ap ps.length cp] 39)).alloc (.cells #[.slice none 0 0, .int .i64 0, .int .i64 0, .int .i64 0, .int .i64 0, .slice none 0 0, .slice none 0 0] 29))) := Lib.hid (((((Grow.refl w).alloc _).alloc _).alloc _).alloc _)
  have R3_0 : Hid (((((w.alloc (.cells #[.slice al h.log.length cl, .int .i64 h.sums.a, .int .i64 h.sums.b, .int .i64 h.sums.c, .int .i64 h.sums.d, .slice ar h.ready.length cr, .slice ad h.done.length cd] 29)).alloc (.cells #[.int .i64 me] 3)).alloc (.cells #[.int .i64 1, .int .i64 dd, .int .i64 hh, .slice ap ps.length cp] 39)).alloc (.cells #[.slice none 0 0, .int .i64 0, .int .i64 0, .int .i64 0, .int .i64 0, .slice none 0 0, .slice none 0 0] 29)).heap[w.heap.size]? = some (.cells #[.slice al h.log.length cl, .int .i64 h.sums.a, .int .i64 h.sums.b, .int .i64 h.sums.c, .int .i64 h.sums.d, .slice ar h.ready.length cr, .slice ad h.done.length cd] 29 (0, 0))) := Lib.hid (heap_later (heap_later (heap_later (row_new _ _) _) _) _)
  have R4_0 : Hid (((((w.alloc (.cells #[.slice al h.log.length cl, .int .i64 h.sums.a, .int .i64 h.sums.b, .int .i64 h.sums.c, .int .i64 h.sums.d, .slice ar h.ready.length cr, .slice ad h.done.length cd] 29)).alloc (.cells #[.int .i64 me] 3)).alloc (.cells #[.int .i64 1, .int .i64 dd, .int .i64 hh, .slice ap ps.length cp] 39)).alloc (.cells #[.slice none 0 0, .int .i64 0, .int .i64 0, .int .i64 0, .int .i64 0, .slice none 0 0, .slice none 0 0] 29)).heap[w.heap.size + 1]? = some (.cells #[.int .i64 me] 3 (0, 0))) := Lib.hid (heap_later (heap_later (by simpa using row_new (w.alloc (.cells #[.slice al h.log.length cl, .int .i64 h.sums.a, .int .i64 h.sums.b, .int .i64 h.sums.c, .int .i64 h.sums.d, .slice ar h.ready.length cr, .slice ad h.done.length cd] 29)) (.cells #[.int .i64 me] 3)) _) _)
  have R5_0 : Hid (((((w.alloc (.cells #[.slice al h.log.length cl, .int .i64 h.sums.a, .int .i64 h.sums.b, .int .i64 h.sums.c, .int .i64 h.sums.d, .slice ar h.ready.length cr, .slice ad h.done.length cd] 29)).alloc (.cells #[.int .i64 me] 3)).alloc (.cells #[.int .i64 1, .int .i64 dd, .int .i64 hh, .slice ap ps.length cp] 39)).alloc (.cells #[.slice none 0 0, .int .i64 0, .int .i64 0, .int .i64 0, .int .i64 0, .slice none 0 0, .slice none 0 0] 29)).heap[w.heap.size + 1 + 1]? = some (.cells #[.int .i64 1, .int .i64 dd, .int .i64 hh, .slice ap ps.length cp] 39 (0, 0))) := Lib.hid (heap_later (by simpa using row_new ((w.alloc (.cells #[.slice al h.log.length cl, .int .i64 h.sums.a, .int .i64 h.sums.b, .int .i64 h.sums.c, .int .i64 h.sums.d, .slice ar h.ready.length cr, .slice ad h.done.length cd] 29)).alloc (.cells #[.int .i64 me] 3)) (.cells #[.int .i64 1, .int .i64 dd, .int .i64 hh, .slice ap ps.length cp] 39)) _)
  have R6_0 : Hid (((((w.alloc (.cells #[.slice al h.log.length cl, .int .i64 h.sums.a, .int .i64 h.sums.b, .int .i64 h.sums.c, .int .i64 h.sums.d, .slice ar h.ready.length cr, .slice ad h.done.length cd] 29)).alloc (.cells #[.int .i64 me] 3)).alloc (.cells #[.int .i64 1, .int .i64 dd, .int .i64 hh, .slice ap ps.length cp] 39)).alloc (.cells #[.slice none 0 0, .int .i64 0, .int .i64 0, .int .i64 0, .int .i64 0, .slice none 0 0, .slice none 0 0] 29)).heap[w.heap.size + 1 + 1 + 1]? = some (.cells #[.slice none 0 0, .int .i64 0, .int .i64 0, .int .i64 0, .int .i64 0, .slice none 0 0, .slice none 0 0] 29 (0, 0))) := Lib.hid (by simpa using row_new (((w.alloc (.cells #[.slice al h.log.length cl, .int .i64 h.sums.a, .int .i64 h.sums.b, .int .i64 h.sums.c, .int .i64 h.sums.d, .slice ar h.ready.length cr, .slice ad h.done.length cd] 29)).alloc (.cells #[.int .i64 me] 3)).alloc (.cells #[.int .i64 1, .int .i64 dd, .int .i64 hh, .slice ap ps.length cp] 39)) (.cells #[.slice none 0 0, .int .i64 0, .int .i64 0, .int .i64 0, .int .i64 0, .slice none 0 0, .slice none 0 0] 29))
  clear hv hm hk hkm hn hp hpp hme hmd hms hlg
  have HEH : Hid (hearH h ⟨1, dd, hh, ps⟩ = h) := by
    show hearH h ⟨1, dd, hh, ps⟩ = h
    unfold hearH
    rw [if_pos rfl, if_neg (fun h2 => e0 h2.1)]
  have HEM : Hid (hearM h me ⟨1, dd, hh, ps⟩ = sayE 3 dd me) := by
    show hearM h me ⟨1, dd, hh, ps⟩ = sayE 3 dd me
    unfold hearM
    rw [if_pos rfl, if_neg e10, if_neg e0]
  have hb10 : (voteE h dd ps == 10) = false := by simpa using e10
  have hb0 : (voteE h dd ps == 0) = false := by simpa using e0
  clear e0 e10
  generalize voteE h dd ps = ve at *
  go_enter Try.func50, Try.ntmps50
  go_wp2_with fail
  refine (HHS.out _ HG4.out).mono ?_
  rintro e v0 ⟨vx, rfl, hX, hb0⟩
  obtain ⟨al2, cl2, ar2, cr2, ad2, cd2, rfl⟩ := hX.hs_form
  have HX0 : Hid (Of Ty.hs (win (((((w.alloc (.cells #[.slice al h.log.length cl, .int .i64 h.sums.a, .int .i64 h.sums.b, .int .i64 h.sums.c, .int .i64 h.sums.d, .slice ar h.ready.length cr, .slice ad h.done.length cd] 29)).alloc (.cells #[.int .i64 me] 3)).alloc (.cells #[.int .i64 1, .int .i64 dd, .int .i64 hh, .slice ap ps.length cp] 39)).alloc (.cells #[.slice none 0 0, .int .i64 0, .int .i64 0, .int .i64 0, .int .i64 0, .slice none 0 0, .slice none 0 0] 29))).heap.size v0.heap.size v0) _ h) := Lib.hid (hX.mono (win_ov _ _))
  have R3_v0 := Lib.hid (row_grow R3_0.out hb0)
  have R4_v0 := Lib.hid (row_grow R4_0.out hb0)
  have R5_v0 := Lib.hid (row_grow R5_0.out hb0)
  have R6_v0 := Lib.hid (row_grow R6_0.out hb0)
  have G_v0 := Lib.hid (HG4.out.trans hb0)
  clear hX hb0
  (try clear a0 a1 a2 a3 a4 a5 a6)
  (try clear b0)
  (try clear c0 c1 c2 c3)
  (try clear d0 d1 d2 d3 d4 d5 d6)
  obtain ⟨a0, a1, a2, a3, a4, a5, a6⟩ := cells7 R3_v0.out
  obtain ⟨c0, c1, c2, c3⟩ := cells4 R5_v0.out
  have R9n := row_new v0 (.cells #[.slice none 0 0, .int .i64 0, .int .i64 0, .int .i64 0, .int .i64 0, .slice none 0 0, .slice none 0 0] 29)
  go_wp2_with (first | (refine wpList_store_row rfl (.tmp 9) (.tmp 13) rfl rfl rfl R9n info_hs rfl rfl ?_))
  clear R9n
  intro v1 r1 g1
  have R9_v1 := Lib.hid r1
  have R3_v1 : Hid (v1.heap[w.heap.size]? = _) := Lib.hid (row_by (heap_later R3_v0.out _) g1 (by have := (Array.getElem?_eq_some_iff.1 R3_v0.out).1; simp; omega))
  have R4_v1 : Hid (v1.heap[w.heap.size + 1]? = _) := Lib.hid (row_by (heap_later R4_v0.out _) g1 (by have := (Array.getElem?_eq_some_iff.1 R4_v0.out).1; simp; omega))
  have R5_v1 : Hid (v1.heap[w.heap.size + 1 + 1]? = _) := Lib.hid (row_by (heap_later R5_v0.out _) g1 (by have := (Array.getElem?_eq_some_iff.1 R5_v0.out).1; simp; omega))
  have R6_v1 : Hid (v1.heap[w.heap.size + 1 + 1 + 1]? = _) := Lib.hid (row_by (heap_later R6_v0.out _) g1 (by have := (Array.getElem?_eq_some_iff.1 R6_v0.out).1; simp; omega))
  have G_v1 := Lib.hid ((G_v0.out.alloc (.cells #[.slice none 0 0, .int .i64 0, .int .i64 0, .int .i64 0, .int .i64 0, .slice none 0 0, .slice none 0 0] 29)).grown g1 (fun k hk => by have := G_v0.out.size; simp at hk; omega))
  have HY_v1 := Lib.hid ((HX0.out.mono (win_grow ((Grow.refl v0).alloc _) _ _)).mono (win_set g1 (.inr (Nat.le_refl _))))
  have HZ9 : Hid (w.heap.size + 1 + 1 + 1 < v0.heap.size) := Lib.hid (Array.getElem?_eq_some_iff.1 R6_v0.out).1
  have HLO : Hid (w.heap.size + 1 + 1 + 1 < (((((w.alloc (.cells #[.slice al h.log.length cl, .int .i64 h.sums.a, .int .i64 h.sums.b, .int .i64 h.sums.c, .int .i64 h.sums.d, .slice ar h.ready.length cr, .slice ad h.done.length cd] 29)).alloc (.cells #[.int .i64 me] 3)).alloc (.cells #[.int .i64 1, .int .i64 dd, .int .i64 hh, .slice ap ps.length cp] 39)).alloc (.cells #[.slice none 0 0, .int .i64 0, .int .i64 0, .int .i64 0, .int .i64 0, .slice none 0 0, .slice none 0 0] 29))).heap.size ∧ w.heap.size ≤ (((((w.alloc (.cells #[.slice al h.log.length cl, .int .i64 h.sums.a, .int .i64 h.sums.b, .int .i64 h.sums.c, .int .i64 h.sums.d, .slice ar h.ready.length cr, .slice ad h.done.length cd] 29)).alloc (.cells #[.int .i64 me] 3)).alloc (.cells #[.int .i64 1, .int .i64 dd, .int .i64 hh, .slice ap ps.length cp] 39)).alloc (.cells #[.slice none 0 0, .int .i64 0, .int .i64 0, .int .i64 0, .int .i64 0, .slice none 0 0, .slice none 0 0] 29))).heap.size) := Lib.hid (by simp; omega)
  have HNB : Hid (w.heap.size + 1 + 1 + 1 ≤ v1.heap.size) := Lib.hid (by have := G_v1.out.size; exact Nat.le_of_lt (Array.getElem?_eq_some_iff.1 R6_v1.out).1)
  clear r1 g1 HX0
  (try clear a0 a1 a2 a3 a4 a5 a6)
  (try clear b0)
  (try clear c0 c1 c2 c3)
  (try clear d0 d1 d2 d3 d4 d5 d6)
  obtain ⟨a0, a1, a2, a3, a4, a5, a6⟩ := cells7 R3_v1.out
  obtain ⟨c0, c1, c2, c3⟩ := cells4 R5_v1.out
  obtain ⟨d0, d1, d2, d3, d4, d5, d6⟩ := cells7 R9_v1.out
  go_wp2_with fail
  refine (HVO.out _ G_v1.out).mono ?_
  rintro e v2 ⟨rfl, hbv2⟩
  have R3_v2 := Lib.hid (row_grow R3_v1.out hbv2)
  have R4_v2 := Lib.hid (row_grow R4_v1.out hbv2)
  have R5_v2 := Lib.hid (row_grow R5_v1.out hbv2)
  have R6_v2 := Lib.hid (row_grow R6_v1.out hbv2)
  have R9_v2 := Lib.hid (row_grow R9_v1.out hbv2)
  have G_v2 := Lib.hid (G_v1.out.trans hbv2)
  have HY_v2 := Lib.hid (HY_v1.out.mono (win_grow hbv2 _ _))
  clear hbv2
  (try clear a0 a1 a2 a3 a4 a5 a6)
  (try clear b0)
  (try clear c0 c1 c2 c3)
  (try clear d0 d1 d2 d3 d4 d5 d6)
  obtain ⟨a0, a1, a2, a3, a4, a5, a6⟩ := cells7 R3_v2.out
  obtain ⟨c0, c1, c2, c3⟩ := cells4 R5_v2.out
  obtain ⟨d0, d1, d2, d3, d4, d5, d6⟩ := cells7 R9_v2.out
  go_wp2_with fail
  have HS : Hid (∀ W, v2.grownBy W (some (w.heap.size + 1 + 1 + 1)) → W.cell? ⟨v0.heap.size, 0, none⟩ = some (.slice al2 h.log.length cl2) ∧ W.cell? ⟨v0.heap.size, 1, none⟩ = some (.int .i64 h.sums.a) ∧ W.cell? ⟨v0.heap.size, 2, none⟩ = some (.int .i64 h.sums.b) ∧ W.cell? ⟨v0.heap.size, 3, none⟩ = some (.int .i64 h.sums.c) ∧ W.cell? ⟨v0.heap.size, 4, none⟩ = some (.int .i64 h.sums.d) ∧ W.cell? ⟨v0.heap.size, 5, none⟩ = some (.slice ar2 h.ready.length cr2) ∧ W.cell? ⟨v0.heap.size, 6, none⟩ = some (.slice ad2 h.done.length cd2) ∧ W.cell? ⟨w.heap.size + 1 + 1, 1, none⟩ = some (.int .i64 dd) ∧ W.cell? ⟨w.heap.size + 1, 0, none⟩ = some (.int .i64 me)) := fun W hW => by
    have k : ∀ (b o : Nat) (u : Value), b ≠ w.heap.size + 1 + 1 + 1 → v2.cell? ⟨b, o, none⟩ = some u → W.cell? ⟨b, o, none⟩ = some u := fun b o u hb e => by
      rw [by_cell hW (World.block_lt_of_cell? v2 _ e) hb]; exact e
    obtain ⟨d0, d1, d2, d3, d4, d5, d6⟩ := cells7 R9_v2.out
    obtain ⟨-, c1, -, -⟩ := cells4 R5_v2.out
    have hz := HZ9.out
    exact ⟨k _ _ _ (by omega) d0, k _ _ _ (by omega) d1, k _ _ _ (by omega) d2, k _ _ _ (by omega) d3, k _ _ _ (by omega) d4, k _ _ _ (by omega) d5, k _ _ _ (by omega) d6, k _ _ _ (by omega) c1, k _ _ _ (by omega) (cell1 R4_v2.out)⟩
  (try clear a0 a1 a2 a3 a4 a5 a6)
  (try clear c0 c1 c2 c3)
  (try clear d0 d1 d2 d3 d4 d5 d6)
  refine but_start (fun w' => w'.cell? ⟨v0.heap.size, 0, none⟩ = some (.slice al2 h.log.length cl2) ∧ w'.cell? ⟨v0.heap.size, 1, none⟩ = some (.int .i64 h.sums.a) ∧ w'.cell? ⟨v0.heap.size, 2, none⟩ = some (.int .i64 h.sums.b) ∧ w'.cell? ⟨v0.heap.size, 3, none⟩ = some (.int .i64 h.sums.c) ∧ w'.cell? ⟨v0.heap.size, 4, none⟩ = some (.int .i64 h.sums.d) ∧ w'.cell? ⟨v0.heap.size, 5, none⟩ = some (.slice ar2 h.ready.length cr2) ∧ w'.cell? ⟨v0.heap.size, 6, none⟩ = some (.slice ad2 h.done.length cd2) ∧ w'.cell? ⟨w.heap.size + 1 + 1, 1, none⟩ = some (.int .i64 dd) ∧ w'.cell? ⟨w.heap.size + 1, 0, none⟩ = some (.int .i64 me)) 4 (by kernel_rfl) ?_
  obtain ⟨wd, hWd⟩ : ∃ x : World, x = v2.drew := ⟨_, rfl⟩
  rw [← hWd]
  have GD : Grow v2 wd := by rw [hWd]; exact (Grow.refl _).drew
  have zD : v2.heap.size = wd.heap.size := by rw [hWd]; rfl
  have ZD := Lib.hid zD
  clear hWd zD
  refine but_take (i := 0) (v := ?_) 6 rfl (by kernel_rfl) (by kernel_rfl) (by kernel_rfl) (by kernel_rfl) (by kernel_rfl) (fun _ _ _ h => h) (HS.out _ (grownBy_of_grow GD _)) (Or.inl ⟨by rfl, ?_⟩) ?_
  rotate_left
  · (intro w' hSw; (try dsimp only at hSw); obtain ⟨hs0, hs1, hs2, hs3, hs4, hs5, hs6, hs7, hs8⟩ := hSw; go_simp <;> with_reducible rfl)
  try simp only [Act.put, List.getElem_toArray, List.getElem_cons_zero, List.setIfInBounds_toArray, List.set_cons_zero, List.set_cons_succ]
  refine but_take (i := 1) (v := ?_) 6 rfl (by kernel_rfl) (by kernel_rfl) (by kernel_rfl) (by kernel_rfl) (by kernel_rfl) (fun _ _ _ h => h) (HS.out _ (grownBy_of_grow GD _)) (Or.inl ⟨by rfl, ?_⟩) ?_
  rotate_left
  · (intro w' hSw; (try dsimp only at hSw); obtain ⟨hs0, hs1, hs2, hs3, hs4, hs5, hs6, hs7, hs8⟩ := hSw; go_simp <;> with_reducible rfl)
  try simp only [Act.put, List.getElem_toArray, List.getElem_cons_succ, List.getElem_cons_zero, List.setIfInBounds_toArray, List.set_cons_zero, List.set_cons_succ]
  refine but_one (i := 2) (by kernel_rfl) rfl ?_
  intro K HK'
  have HK := Lib.hid HK'
  clear HK'
  skip
  try simp only [List.getElem_toArray, List.getElem_cons_succ, List.getElem_cons_zero]
  go_simp
  go_at_call 126
  refine (house_say (B5 := w.heap.size + 1 + 1) (B4 := w.heap.size + 1) wd (HS.out _ (grownBy_of_grow GD _)).2.2.2.2.2.2.2.1 (HS.out _ (grownBy_of_grow GD _)).2.2.2.2.2.2.2.2 (Nat.lt_of_lt_of_le (Array.getElem?_eq_some_iff.1 R5_v2.out).1 GD.size) (Nat.lt_of_lt_of_le (Array.getElem?_eq_some_iff.1 R4_v2.out).1 GD.size) (show I64 3 from by unfold I64; decide) HMS.out.2.2.1 HME.out).mono ?_
  rintro e wq ⟨vq, rfl, hq, hbq⟩
  have HQ : Hid (Sl Ty.ms (win wd.heap.size wq.heap.size wq) vq (sayE 3 dd me)) := Lib.hid (hq.mono (win_ov _ _))
  have HBQ := Lib.hid hbq
  clear hq hbq
  refine HK.out _ _ ⟨fun _ => HS.out _ (grownBy_of_grow (GD.trans HBQ.out) _), ?_⟩
  clear HK K
  try simp only [Act.put, List.getElem_toArray, List.getElem_cons_succ, List.getElem_cons_zero, List.setIfInBounds_toArray, List.set_cons_zero, List.set_cons_succ]
  refine but_one (i := 3) (by kernel_rfl) rfl ?_
  intro K HK'
  have HK := Lib.hid HK'
  clear HK'
  refine wanted_go rfl ?_
  try simp only [List.getElem_toArray, List.getElem_cons_succ, List.getElem_cons_zero]
  refine wp_store_row (.tmp 6) (.tmp 43) rfl rfl rfl (row_grow R6_v2.out (GD.trans HBQ.out)) info_hs rfl rfl ?_
  intro w7 r7 g7
  refine HK.out _ _ ⟨fun _ => HS.out _ (grownBy_trans (grownBy_of_grow (GD.trans HBQ.out) _) g7), ?_⟩
  clear HK K
  try simp only [Act.put]
  refine but_one (i := 4) (by kernel_rfl) rfl ?_
  intro K HK'
  have HK := Lib.hid HK'
  clear HK'
  skip
  try simp only [List.getElem_toArray, List.getElem_cons_succ, List.getElem_cons_zero]
  go_simp
  refine HK.out _ _ ⟨fun h => absurd rfl h, ?_⟩
  clear HK K
  try simp only [Act.put, List.getElem_toArray, List.getElem_cons_succ, List.getElem_cons_zero, List.setIfInBounds_toArray, List.set_cons_zero, List.set_cons_succ]
  refine but_done (by kernel_rfl) ?_
  obtain ⟨p0, p1, p2, p3, p4, p5, p6⟩ := cells7 r7
  go_wp2
  refine bodyPost_ret (v := .tuple #[.agg #[.slice al2 h.log.length cl2, .int .i64 h.sums.a, .int .i64 h.sums.b, .int .i64 h.sums.c, .int .i64 h.sums.d, .slice ar2 h.ready.length cr2, .slice ad2 h.done.length cd2], vq]) (by simp [results, Try.results50, go_sem, p0, p1, p2, p3, p4, p5, p6]) rfl ?_
  rw [HEH.out, HEM.out]
  have hzd : w.heap.size ≤ wd.heap.size := (G_v2.out.trans GD).size
  have h6 : w.heap.size + 1 + 1 + 1 < wd.heap.size := Nat.lt_of_lt_of_le (Array.getElem?_eq_some_iff.1 R6_v2.out).1 GD.size
  refine ⟨_, _, rfl, (((HY_v2.out.mono (win_grow (GD.trans HBQ.out) _ _)).mono (win_set g7 (.inl HLO.out.1))).mono (win_ovn HLO.out.2)), ((HQ.out.mono (win_set g7 (.inl h6))).mono (win_ovn hzd)), ((G_v2.out.trans GD).trans HBQ.out).grown g7 (fun k hk => by simp at hk; omega)⟩
end Go.Proofs.Ytgbhpghgohggcaa

/- Walks: Hear of the program's houses (N). -/
namespace Go.Proofs.Ytgbhpghgohggcaa
open Go.RowKit
set_option maxRecDepth 100000 in
set_option maxHeartbeats 2000000 in
theorem phear_prepN {v vm : Value} {h : Hs} {dd hh me : Int} {ps : List Pt} (w : World) (hv : Of Ty.hs w.cell? v h) (hm : Of Ty.ms w.cell? vm ⟨1, dd, hh, ps⟩) (hk : ∀ x ∈ h.log, KeysOk x.parts) (hkm : KeysOk ps) (hn : (h.log.length + 1) * 40 ≤ 140737488351232)
    (hp : ∀ x ∈ h.log, x.parts.length * 24 ≤ 140737488355328) (hpp : ps.length * 24 ≤ 140737488355328) (hme : I64 me) (hmd : Made h) (e0 : voteE h dd ps = 0) (rd : readyE h.ready dd = false) :
    Calls Try.prog 50 #[v, .int .i64 me, vm] w fun e w' => ∃ v1 v2, e = .returned (.tuple #[v1, v2]) ∧ Of Ty.hs (ov (fun _ => none) w w') v1 (hearH h ⟨1, dd, hh, ps⟩) ∧ Sl Ty.ms (ov (fun _ => none) w w') v2 (hearM h me ⟨1, dd, hh, ps⟩) ∧ Grow w w' := by
  obtain ⟨al, cl, ar, cr, ad, cd, rfl⟩ := hv.hs_form
  obtain ⟨ap, cp, rfl⟩ : ∃ ap cp, vm = .agg #[.int .i64 1, .int .i64 dd, .int .i64 hh, .slice ap ps.length cp] := hm.ms_form
  have hms : Sl Ty.pt w.cell? (.slice ap ps.length cp) ps ∧ I64 1 ∧ I64 dd ∧ I64 hh := Of.ms_parts hm
  have hlg := (Of.hs_log hv).1
  have HMS := Lib.hid hms
  have HV0 := Lib.hid hv
  have HME := Lib.hid hme
  have HVO := Lib.hid (fun (W : World) (hW : Grow w W) => house_vote (d := dd) W (hv.mono hW.sub) (hms.1.mono hW.sub) hkm)
  have HIS := Lib.hid (fun (W : World) (hW : Grow w W) hb hc => house_is (B := w.heap.size) (d := dd) W hb hc ((Of.hs_log hv).2.1.mono hW.sub))
  have HHS : Hid (∀ (W : World), Grow w W → Calls Try.prog 36 #[.slice al h.log.length cl] W fun e w' => ∃ v', e = .returned v' ∧ Of Ty.hs (ov (fun _ => none) W w') v' h ∧ Grow W w') := Lib.hid (fun (W : World) (hW : Grow w W) => by
    have hx := wlog_house W (hlg.mono hW.sub) hk (by omega) hp
    rw [← (show h = houseR h.log from hmd)] at hx
    exact hx)
  have HNT := Lib.hid (fun (r : Rc) (vr : Value) (W : World) (hW : Grow w W) (hr : Of Ty.rc W.cell? vr r) (hkr : KeysOk r.parts) (hpr : r.parts.length * 24 ≤ 140737488355328) => wlog_note W (hv.mono hW.sub) hr hk hkr (by omega) hp hpr)
  have HKP := Lib.hid (And.intro hkm hpp)
  have HG4 : Hid (Grow w ((((w.alloc (.cells #[.slice al h.log.length cl, .int .i64 h.sums.a, .int .i64 h.sums.b, .int .i64 h.sums.c, .int .i64 h.sums.d, .slice ar h.ready.length cr, .slice ad h.done.length cd] 29)).alloc (.cells #[.int .i64 me] 3)).alloc (.cells #[.int .i64 1, .int .i64 dd, .int .i64 hh, .slice ap ps.length cp] 39)).alloc (.cells #[.slice none 0 0, .int .i64 0, .int .i64 0, .int .i64 0, .int .i64 0, .slice none 0 0, .slice none 0 0] 29))) := Lib.hid (((((Grow.refl w).alloc _).alloc _).alloc _).alloc _)
  have R3_0 : Hid (((((w.alloc (.cells #[.slice al h.log.length cl, .int .i64 h.sums.a, .int .i64 h.sums.b, .int .i64 h.sums.c, .int .i64 h.sums.d, .slice ar h.ready.length cr, .slice ad h.done.length cd] 29)).alloc (.cells #[.int .i64 me] 3)).alloc (.cells #[.int .i64 1, .int .i64 dd, .int .i64 hh, .slice ap ps.length cp] 39)).alloc (.cells #[.slice none 0 0, .int .i64 0, .int .i64 0, .int .i64 0, .int .i64 0, .slice none 0 0, .slice none 0 0] 29)).heap[w.heap.size]? = some (.cells #[.slice al h.log.length cl, .int .i64 h.sums.a, .int .i64 h.sums.b, .int .i64 h.sums.c, .int .i64 h.sums.d, .slice ar h.ready.length cr, .slice ad h.done.length cd] 29 (0, 0))) := Lib.hid (heap_later (heap_later (heap_later (row_new _ _) _) _) _)
  have R4_0 : Hid (((((w.alloc (.cells #[.slice al h.log.length cl, .int .i64 h.sums.a, .int .i64 h.sums.b, .int .i64 h.sums.c, .int .i64 h.sums.d, .slice ar h.ready.length cr, .slice ad h.done.length cd] 29)).alloc (.cells #[.int .i64 me] 3)).alloc (.cells #[.int .i64 1, .int .i64 dd, .int .i64 hh, .slice ap ps.length cp] 39)).alloc (.cells #[.slice none 0 0, .int .i64 0, .int .i64 0, .int .i64 0, .int .i64 0, .slice none 0 0, .slice none 0 0] 29)).heap[w.heap.size + 1]? = some (.cells #[.int .i64 me] 3 (0, 0))) := Lib.hid (heap_later (heap_later (by simpa using row_new (w.alloc (.cells #[.slice al h.log.length cl, .int .i64 h.sums.a, .int .i64 h.sums.b, .int .i64 h.sums.c, .int .i64 h.sums.d, .slice ar h.ready.length cr, .slice ad h.done.length cd] 29)) (.cells #[.int .i64 me] 3)) _) _)
  have R5_0 : Hid (((((w.alloc (.cells #[.slice al h.log.length cl, .int .i64 h.sums.a, .int .i64 h.sums.b, .int .i64 h.sums.c, .int .i64 h.sums.d, .slice ar h.ready.length cr, .slice ad h.done.length cd] 29)).alloc (.cells #[.int .i64 me] 3)).alloc (.cells #[.int .i64 1, .int .i64 dd, .int .i64 hh, .slice ap ps.length cp] 39)).alloc (.cells #[.slice none 0 0, .int .i64 0, .int .i64 0, .int .i64 0, .int .i64 0, .slice none 0 0, .slice none 0 0] 29)).heap[w.heap.size + 1 + 1]? = some (.cells #[.int .i64 1, .int .i64 dd, .int .i64 hh, .slice ap ps.length cp] 39 (0, 0))) := Lib.hid (heap_later (by simpa using row_new ((w.alloc (.cells #[.slice al h.log.length cl, .int .i64 h.sums.a, .int .i64 h.sums.b, .int .i64 h.sums.c, .int .i64 h.sums.d, .slice ar h.ready.length cr, .slice ad h.done.length cd] 29)).alloc (.cells #[.int .i64 me] 3)) (.cells #[.int .i64 1, .int .i64 dd, .int .i64 hh, .slice ap ps.length cp] 39)) _)
  have R6_0 : Hid (((((w.alloc (.cells #[.slice al h.log.length cl, .int .i64 h.sums.a, .int .i64 h.sums.b, .int .i64 h.sums.c, .int .i64 h.sums.d, .slice ar h.ready.length cr, .slice ad h.done.length cd] 29)).alloc (.cells #[.int .i64 me] 3)).alloc (.cells #[.int .i64 1, .int .i64 dd, .int .i64 hh, .slice ap ps.length cp] 39)).alloc (.cells #[.slice none 0 0, .int .i64 0, .int .i64 0, .int .i64 0, .int .i64 0, .slice none 0 0, .slice none 0 0] 29)).heap[w.heap.size + 1 + 1 + 1]? = some (.cells #[.slice none 0 0, .int .i64 0, .int .i64 0, .int .i64 0, .int .i64 0, .slice none 0 0, .slice none 0 0] 29 (0, 0))) := Lib.hid (by simpa using row_new (((w.alloc (.cells #[.slice al h.log.length cl, .int .i64 h.sums.a, .int .i64 h.sums.b, .int .i64 h.sums.c, .int .i64 h.sums.d, .slice ar h.ready.length cr, .slice ad h.done.length cd] 29)).alloc (.cells #[.int .i64 me] 3)).alloc (.cells #[.int .i64 1, .int .i64 dd, .int .i64 hh, .slice ap ps.length cp] 39)) (.cells #[.slice none 0 0, .int .i64 0, .int .i64 0, .int .i64 0, .int .i64 0, .slice none 0 0, .slice none 0 0] 29))
  clear hv hm hk hkm hn hp hpp hme hmd hms hlg
  have HEH : Hid (hearH h ⟨1, dd, hh, ps⟩ = noteE h ⟨1, dd, ps⟩) := by
    show hearH h ⟨1, dd, hh, ps⟩ = noteE h ⟨1, dd, ps⟩
    unfold hearH
    rw [if_pos rfl, if_pos ⟨e0, rd⟩]
  have HEM : Hid (hearM h me ⟨1, dd, hh, ps⟩ = sayE 2 dd me) := by
    show hearM h me ⟨1, dd, hh, ps⟩ = sayE 2 dd me
    unfold hearM
    rw [if_pos rfl, if_neg (by show ¬ voteE h dd ps = 10; omega), if_pos e0]
  have E0 := Lib.hid e0
  have RD := Lib.hid rd
  clear e0 rd
  go_enter Try.func50, Try.ntmps50
  go_wp2_with fail
  refine (HHS.out _ HG4.out).mono ?_
  rintro e v0 ⟨vx, rfl, hX, hb0⟩
  obtain ⟨al2, cl2, ar2, cr2, ad2, cd2, rfl⟩ := hX.hs_form
  have HX0 : Hid (Of Ty.hs (win (((((w.alloc (.cells #[.slice al h.log.length cl, .int .i64 h.sums.a, .int .i64 h.sums.b, .int .i64 h.sums.c, .int .i64 h.sums.d, .slice ar h.ready.length cr, .slice ad h.done.length cd] 29)).alloc (.cells #[.int .i64 me] 3)).alloc (.cells #[.int .i64 1, .int .i64 dd, .int .i64 hh, .slice ap ps.length cp] 39)).alloc (.cells #[.slice none 0 0, .int .i64 0, .int .i64 0, .int .i64 0, .int .i64 0, .slice none 0 0, .slice none 0 0] 29))).heap.size v0.heap.size v0) _ h) := Lib.hid (hX.mono (win_ov _ _))
  have R3_v0 := Lib.hid (row_grow R3_0.out hb0)
  have R4_v0 := Lib.hid (row_grow R4_0.out hb0)
  have R5_v0 := Lib.hid (row_grow R5_0.out hb0)
  have R6_v0 := Lib.hid (row_grow R6_0.out hb0)
  have G_v0 := Lib.hid (HG4.out.trans hb0)
  clear hX hb0
  (try clear a0 a1 a2 a3 a4 a5 a6)
  (try clear b0)
  (try clear c0 c1 c2 c3)
  (try clear d0 d1 d2 d3 d4 d5 d6)
  obtain ⟨a0, a1, a2, a3, a4, a5, a6⟩ := cells7 R3_v0.out
  obtain ⟨c0, c1, c2, c3⟩ := cells4 R5_v0.out
  have R9n := row_new v0 (.cells #[.slice none 0 0, .int .i64 0, .int .i64 0, .int .i64 0, .int .i64 0, .slice none 0 0, .slice none 0 0] 29)
  go_wp2_with (first | (refine wpList_store_row rfl (.tmp 9) (.tmp 13) rfl rfl rfl R9n info_hs rfl rfl ?_))
  clear R9n
  intro v1 r1 g1
  have R9_v1 := Lib.hid r1
  have R3_v1 : Hid (v1.heap[w.heap.size]? = _) := Lib.hid (row_by (heap_later R3_v0.out _) g1 (by have := (Array.getElem?_eq_some_iff.1 R3_v0.out).1; simp; omega))
  have R4_v1 : Hid (v1.heap[w.heap.size + 1]? = _) := Lib.hid (row_by (heap_later R4_v0.out _) g1 (by have := (Array.getElem?_eq_some_iff.1 R4_v0.out).1; simp; omega))
  have R5_v1 : Hid (v1.heap[w.heap.size + 1 + 1]? = _) := Lib.hid (row_by (heap_later R5_v0.out _) g1 (by have := (Array.getElem?_eq_some_iff.1 R5_v0.out).1; simp; omega))
  have R6_v1 : Hid (v1.heap[w.heap.size + 1 + 1 + 1]? = _) := Lib.hid (row_by (heap_later R6_v0.out _) g1 (by have := (Array.getElem?_eq_some_iff.1 R6_v0.out).1; simp; omega))
  have G_v1 := Lib.hid ((G_v0.out.alloc (.cells #[.slice none 0 0, .int .i64 0, .int .i64 0, .int .i64 0, .int .i64 0, .slice none 0 0, .slice none 0 0] 29)).grown g1 (fun k hk => by have := G_v0.out.size; simp at hk; omega))
  have HY_v1 := Lib.hid ((HX0.out.mono (win_grow ((Grow.refl v0).alloc _) _ _)).mono (win_set g1 (.inr (Nat.le_refl _))))
  have HZ9 : Hid (w.heap.size + 1 + 1 + 1 < v0.heap.size) := Lib.hid (Array.getElem?_eq_some_iff.1 R6_v0.out).1
  have HLO : Hid (w.heap.size + 1 + 1 + 1 < (((((w.alloc (.cells #[.slice al h.log.length cl, .int .i64 h.sums.a, .int .i64 h.sums.b, .int .i64 h.sums.c, .int .i64 h.sums.d, .slice ar h.ready.length cr, .slice ad h.done.length cd] 29)).alloc (.cells #[.int .i64 me] 3)).alloc (.cells #[.int .i64 1, .int .i64 dd, .int .i64 hh, .slice ap ps.length cp] 39)).alloc (.cells #[.slice none 0 0, .int .i64 0, .int .i64 0, .int .i64 0, .int .i64 0, .slice none 0 0, .slice none 0 0] 29))).heap.size ∧ w.heap.size ≤ (((((w.alloc (.cells #[.slice al h.log.length cl, .int .i64 h.sums.a, .int .i64 h.sums.b, .int .i64 h.sums.c, .int .i64 h.sums.d, .slice ar h.ready.length cr, .slice ad h.done.length cd] 29)).alloc (.cells #[.int .i64 me] 3)).alloc (.cells #[.int .i64 1, .int .i64 dd, .int .i64 hh, .slice ap ps.length cp] 39)).alloc (.cells #[.slice none 0 0, .int .i64 0, .int .i64 0, .int .i64 0, .int .i64 0, .slice none 0 0, .slice none 0 0] 29))).heap.size) := Lib.hid (by simp; omega)
  have HNB : Hid (w.heap.size + 1 + 1 + 1 ≤ v1.heap.size) := Lib.hid (by have := G_v1.out.size; exact Nat.le_of_lt (Array.getElem?_eq_some_iff.1 R6_v1.out).1)
  clear r1 g1 HX0
  (try clear a0 a1 a2 a3 a4 a5 a6)
  (try clear b0)
  (try clear c0 c1 c2 c3)
  (try clear d0 d1 d2 d3 d4 d5 d6)
  obtain ⟨a0, a1, a2, a3, a4, a5, a6⟩ := cells7 R3_v1.out
  obtain ⟨c0, c1, c2, c3⟩ := cells4 R5_v1.out
  obtain ⟨d0, d1, d2, d3, d4, d5, d6⟩ := cells7 R9_v1.out
  go_wp2_with fail
  refine (HVO.out _ G_v1.out).mono ?_
  rw [E0.out]
  rintro e v2 ⟨rfl, hbv2⟩
  have R3_v2 := Lib.hid (row_grow R3_v1.out hbv2)
  have R4_v2 := Lib.hid (row_grow R4_v1.out hbv2)
  have R5_v2 := Lib.hid (row_grow R5_v1.out hbv2)
  have R6_v2 := Lib.hid (row_grow R6_v1.out hbv2)
  have R9_v2 := Lib.hid (row_grow R9_v1.out hbv2)
  have G_v2 := Lib.hid (G_v1.out.trans hbv2)
  have HY_v2 := Lib.hid (HY_v1.out.mono (win_grow hbv2 _ _))
  clear hbv2
  (try clear a0 a1 a2 a3 a4 a5 a6)
  (try clear b0)
  (try clear c0 c1 c2 c3)
  (try clear d0 d1 d2 d3 d4 d5 d6)
  obtain ⟨a0, a1, a2, a3, a4, a5, a6⟩ := cells7 R3_v2.out
  obtain ⟨c0, c1, c2, c3⟩ := cells4 R5_v2.out
  obtain ⟨d0, d1, d2, d3, d4, d5, d6⟩ := cells7 R9_v2.out
  go_wp2_with fail
  refine (HIS.out _ G_v2.out (Array.getElem?_eq_some_iff.1 R3_v2.out).1 (cells7 R3_v2.out).2.2.2.2.2.1).mono ?_
  rw [RD.out]
  rintro e v3 ⟨rfl, hbv3⟩
  have R3_v3 := Lib.hid (row_grow R3_v2.out hbv3)
  have R4_v3 := Lib.hid (row_grow R4_v2.out hbv3)
  have R5_v3 := Lib.hid (row_grow R5_v2.out hbv3)
  have R6_v3 := Lib.hid (row_grow R6_v2.out hbv3)
  have R9_v3 := Lib.hid (row_grow R9_v2.out hbv3)
  have G_v3 := Lib.hid (G_v2.out.trans hbv3)
  have HY_v3 := Lib.hid (HY_v2.out.mono (win_grow hbv3 _ _))
  clear hbv3
  (try clear a0 a1 a2 a3 a4 a5 a6)
  (try clear b0)
  (try clear c0 c1 c2 c3)
  (try clear d0 d1 d2 d3 d4 d5 d6)
  obtain ⟨a0, a1, a2, a3, a4, a5, a6⟩ := cells7 R3_v3.out
  obtain ⟨c0, c1, c2, c3⟩ := cells4 R5_v3.out
  obtain ⟨d0, d1, d2, d3, d4, d5, d6⟩ := cells7 R9_v3.out
  go_wp2_with fail
  refine (HNT.out ⟨1, dd, ps⟩ _ _ G_v3.out ⟨_, rfl, _, rfl, HMS.out.2.1, HMS.out.2.2.1, HMS.out.1.mono G_v3.out.sub⟩ HKP.out.1 HKP.out.2).mono ?_
  rintro e v4 ⟨vx, rfl, hX, hbv4⟩
  generalize noteE h ⟨1, dd, ps⟩ = x at *
  obtain ⟨al3, cl3, ar3, cr3, ad3, cd3, rfl⟩ := hX.hs_form
  have HX1 : Hid (Of Ty.hs (win v3.heap.size v4.heap.size v4) _ x) := Lib.hid (hX.mono (win_ov _ _))
  have HZV : Hid (v0.heap.size < v3.heap.size) := Lib.hid (Array.getElem?_eq_some_iff.1 R9_v3.out).1
  have R3_v4 := Lib.hid (row_grow R3_v3.out hbv4)
  have R4_v4 := Lib.hid (row_grow R4_v3.out hbv4)
  have R5_v4 := Lib.hid (row_grow R5_v3.out hbv4)
  have R6_v4 := Lib.hid (row_grow R6_v3.out hbv4)
  have R9_v4 := Lib.hid (row_grow R9_v3.out hbv4)
  have G_v4 := Lib.hid (G_v3.out.trans hbv4)
  clear hX hbv4
  (try clear a0 a1 a2 a3 a4 a5 a6)
  (try clear b0)
  (try clear c0 c1 c2 c3)
  (try clear d0 d1 d2 d3 d4 d5 d6)
  obtain ⟨a0, a1, a2, a3, a4, a5, a6⟩ := cells7 R3_v4.out
  obtain ⟨c0, c1, c2, c3⟩ := cells4 R5_v4.out
  obtain ⟨d0, d1, d2, d3, d4, d5, d6⟩ := cells7 R9_v4.out
  go_wp2_with (first | (refine wpList_store_row rfl (.tmp 9) (.tmp 36) rfl rfl rfl R9_v4.out info_hs rfl rfl ?_))
  intro v5 r2 g2
  have R9_v5 := Lib.hid r2
  have R3_v5 : Hid (v5.heap[w.heap.size]? = _) := Lib.hid (row_by R3_v4.out g2 (by have := HZ9.out; simp; omega))
  have R4_v5 : Hid (v5.heap[w.heap.size + 1]? = _) := Lib.hid (row_by R4_v4.out g2 (by have := HZ9.out; simp; omega))
  have R5_v5 : Hid (v5.heap[w.heap.size + 1 + 1]? = _) := Lib.hid (row_by R5_v4.out g2 (by have := HZ9.out; simp; omega))
  have R6_v5 : Hid (v5.heap[w.heap.size + 1 + 1 + 1]? = _) := Lib.hid (row_by R6_v4.out g2 (by have := HZ9.out; simp; omega))
  have G_v5 := Lib.hid (G_v4.out.grown g2 (fun k hk => by have := HZ9.out; simp at hk; omega))
  have HY_v5 := Lib.hid (HX1.out.mono (win_set g2 (.inl HZV.out)))
  have HLN : Hid (w.heap.size + 1 + 1 + 1 < v3.heap.size ∧ w.heap.size ≤ v3.heap.size) := Lib.hid (by have := HZ9.out; have := HZV.out; omega)
  clear r2 g2 HX1
  (try clear a0 a1 a2 a3 a4 a5 a6)
  (try clear b0)
  (try clear c0 c1 c2 c3)
  (try clear d0 d1 d2 d3 d4 d5 d6)
  obtain ⟨a0, a1, a2, a3, a4, a5, a6⟩ := cells7 R3_v5.out
  obtain ⟨c0, c1, c2, c3⟩ := cells4 R5_v5.out
  obtain ⟨d0, d1, d2, d3, d4, d5, d6⟩ := cells7 R9_v5.out
  go_wp2_with fail
  have HS : Hid (∀ W, v5.grownBy W (some (w.heap.size + 1 + 1 + 1)) → W.cell? ⟨v0.heap.size, 0, none⟩ = some (.slice al3 x.log.length cl3) ∧ W.cell? ⟨v0.heap.size, 1, none⟩ = some (.int .i64 x.sums.a) ∧ W.cell? ⟨v0.heap.size, 2, none⟩ = some (.int .i64 x.sums.b) ∧ W.cell? ⟨v0.heap.size, 3, none⟩ = some (.int .i64 x.sums.c) ∧ W.cell? ⟨v0.heap.size, 4, none⟩ = some (.int .i64 x.sums.d) ∧ W.cell? ⟨v0.heap.size, 5, none⟩ = some (.slice ar3 x.ready.length cr3) ∧ W.cell? ⟨v0.heap.size, 6, none⟩ = some (.slice ad3 x.done.length cd3) ∧ W.cell? ⟨w.heap.size + 1 + 1, 1, none⟩ = some (.int .i64 dd) ∧ W.cell? ⟨w.heap.size + 1, 0, none⟩ = some (.int .i64 me)) := fun W hW => by
    have k : ∀ (b o : Nat) (u : Value), b ≠ w.heap.size + 1 + 1 + 1 → v5.cell? ⟨b, o, none⟩ = some u → W.cell? ⟨b, o, none⟩ = some u := fun b o u hb e => by
      rw [by_cell hW (World.block_lt_of_cell? v5 _ e) hb]; exact e
    obtain ⟨d0, d1, d2, d3, d4, d5, d6⟩ := cells7 R9_v5.out
    obtain ⟨-, c1, -, -⟩ := cells4 R5_v5.out
    have hz := HZ9.out
    exact ⟨k _ _ _ (by omega) d0, k _ _ _ (by omega) d1, k _ _ _ (by omega) d2, k _ _ _ (by omega) d3, k _ _ _ (by omega) d4, k _ _ _ (by omega) d5, k _ _ _ (by omega) d6, k _ _ _ (by omega) c1, k _ _ _ (by omega) (cell1 R4_v5.out)⟩
  (try clear a0 a1 a2 a3 a4 a5 a6)
  (try clear c0 c1 c2 c3)
  (try clear d0 d1 d2 d3 d4 d5 d6)
  refine but_start (fun w' => w'.cell? ⟨v0.heap.size, 0, none⟩ = some (.slice al3 x.log.length cl3) ∧ w'.cell? ⟨v0.heap.size, 1, none⟩ = some (.int .i64 x.sums.a) ∧ w'.cell? ⟨v0.heap.size, 2, none⟩ = some (.int .i64 x.sums.b) ∧ w'.cell? ⟨v0.heap.size, 3, none⟩ = some (.int .i64 x.sums.c) ∧ w'.cell? ⟨v0.heap.size, 4, none⟩ = some (.int .i64 x.sums.d) ∧ w'.cell? ⟨v0.heap.size, 5, none⟩ = some (.slice ar3 x.ready.length cr3) ∧ w'.cell? ⟨v0.heap.size, 6, none⟩ = some (.slice ad3 x.done.length cd3) ∧ w'.cell? ⟨w.heap.size + 1 + 1, 1, none⟩ = some (.int .i64 dd) ∧ w'.cell? ⟨w.heap.size + 1, 0, none⟩ = some (.int .i64 me)) 4 (by kernel_rfl) ?_
  obtain ⟨wd, hWd⟩ : ∃ x : World, x = v5.drew := ⟨_, rfl⟩
  rw [← hWd]
  have GD : Grow v5 wd := by rw [hWd]; exact (Grow.refl _).drew
  have zD : v5.heap.size = wd.heap.size := by rw [hWd]; rfl
  have ZD := Lib.hid zD
  clear hWd zD
  refine but_take (i := 0) (v := ?_) 6 rfl (by kernel_rfl) (by kernel_rfl) (by kernel_rfl) (by kernel_rfl) (by kernel_rfl) (fun _ _ _ h => h) (HS.out _ (grownBy_of_grow GD _)) (Or.inl ⟨by rfl, ?_⟩) ?_
  rotate_left
  · (intro w' hSw; (try dsimp only at hSw); obtain ⟨hs0, hs1, hs2, hs3, hs4, hs5, hs6, hs7, hs8⟩ := hSw; go_simp <;> with_reducible rfl)
  try simp only [Act.put, List.getElem_toArray, List.getElem_cons_zero, List.setIfInBounds_toArray, List.set_cons_zero, List.set_cons_succ]
  refine but_take (i := 1) (v := ?_) 6 rfl (by kernel_rfl) (by kernel_rfl) (by kernel_rfl) (by kernel_rfl) (by kernel_rfl) (fun _ _ _ h => h) (HS.out _ (grownBy_of_grow GD _)) (Or.inl ⟨by rfl, ?_⟩) ?_
  rotate_left
  · (intro w' hSw; (try dsimp only at hSw); obtain ⟨hs0, hs1, hs2, hs3, hs4, hs5, hs6, hs7, hs8⟩ := hSw; go_simp <;> with_reducible rfl)
  try simp only [Act.put, List.getElem_toArray, List.getElem_cons_succ, List.getElem_cons_zero, List.setIfInBounds_toArray, List.set_cons_zero, List.set_cons_succ]
  refine but_one (i := 2) (by kernel_rfl) rfl ?_
  intro K HK'
  have HK := Lib.hid HK'
  clear HK'
  skip
  try simp only [List.getElem_toArray, List.getElem_cons_succ, List.getElem_cons_zero]
  go_simp
  go_at_call 126
  refine (house_say (B5 := w.heap.size + 1 + 1) (B4 := w.heap.size + 1) wd (HS.out _ (grownBy_of_grow GD _)).2.2.2.2.2.2.2.1 (HS.out _ (grownBy_of_grow GD _)).2.2.2.2.2.2.2.2 (Nat.lt_of_lt_of_le (Array.getElem?_eq_some_iff.1 R5_v5.out).1 GD.size) (Nat.lt_of_lt_of_le (Array.getElem?_eq_some_iff.1 R4_v5.out).1 GD.size) (show I64 2 from by unfold I64; decide) HMS.out.2.2.1 HME.out).mono ?_
  rintro e wq ⟨vq, rfl, hq, hbq⟩
  have HQ : Hid (Sl Ty.ms (win wd.heap.size wq.heap.size wq) vq (sayE 2 dd me)) := Lib.hid (hq.mono (win_ov _ _))
  have HBQ := Lib.hid hbq
  clear hq hbq
  refine HK.out _ _ ⟨fun _ => HS.out _ (grownBy_of_grow (GD.trans HBQ.out) _), ?_⟩
  clear HK K
  try simp only [Act.put, List.getElem_toArray, List.getElem_cons_succ, List.getElem_cons_zero, List.setIfInBounds_toArray, List.set_cons_zero, List.set_cons_succ]
  refine but_one (i := 3) (by kernel_rfl) rfl ?_
  intro K HK'
  have HK := Lib.hid HK'
  clear HK'
  refine wanted_go rfl ?_
  try simp only [List.getElem_toArray, List.getElem_cons_succ, List.getElem_cons_zero]
  refine wp_store_row (.tmp 6) (.tmp 37) rfl rfl rfl (row_grow R6_v5.out (GD.trans HBQ.out)) info_hs rfl rfl ?_
  intro w7 r7 g7
  refine HK.out _ _ ⟨fun _ => HS.out _ (grownBy_trans (grownBy_of_grow (GD.trans HBQ.out) _) g7), ?_⟩
  clear HK K
  try simp only [Act.put]
  refine but_one (i := 4) (by kernel_rfl) rfl ?_
  intro K HK'
  have HK := Lib.hid HK'
  clear HK'
  skip
  try simp only [List.getElem_toArray, List.getElem_cons_succ, List.getElem_cons_zero]
  go_simp
  refine HK.out _ _ ⟨fun h => absurd rfl h, ?_⟩
  clear HK K
  try simp only [Act.put, List.getElem_toArray, List.getElem_cons_succ, List.getElem_cons_zero, List.setIfInBounds_toArray, List.set_cons_zero, List.set_cons_succ]
  refine but_done (by kernel_rfl) ?_
  obtain ⟨p0, p1, p2, p3, p4, p5, p6⟩ := cells7 r7
  go_wp2
  refine bodyPost_ret (v := .tuple #[.agg #[.slice al3 x.log.length cl3, .int .i64 x.sums.a, .int .i64 x.sums.b, .int .i64 x.sums.c, .int .i64 x.sums.d, .slice ar3 x.ready.length cr3, .slice ad3 x.done.length cd3], vq]) (by simp [results, Try.results50, go_sem, p0, p1, p2, p3, p4, p5, p6]) rfl ?_
  rw [HEH.out, HEM.out]
  have hzd : w.heap.size ≤ wd.heap.size := (G_v5.out.trans GD).size
  have h6 : w.heap.size + 1 + 1 + 1 < wd.heap.size := Nat.lt_of_lt_of_le (Array.getElem?_eq_some_iff.1 R6_v5.out).1 GD.size
  refine ⟨_, _, rfl, (((HY_v5.out.mono (win_grow (GD.trans HBQ.out) _ _)).mono (win_set g7 (.inl HLN.out.1))).mono (win_ovn HLN.out.2)), ((HQ.out.mono (win_set g7 (.inl h6))).mono (win_ovn hzd)), ((G_v5.out.trans GD).trans HBQ.out).grown g7 (fun k hk => by simp at hk; omega)⟩
end Go.Proofs.Ytgbhpghgohggcaa

/- Walks: Hear of the program's houses (4R). -/
namespace Go.Proofs.Ytgbhpghgohggcaa
open Go.RowKit
set_option maxRecDepth 100000 in
set_option maxHeartbeats 2000000 in
theorem phear_com4R {v vm : Value} {h : Hs} {dd hh me : Int} {ps : List Pt} (w : World) (hv : Of Ty.hs w.cell? v h) (hm : Of Ty.ms w.cell? vm ⟨4, dd, hh, ps⟩) (hk : ∀ x ∈ h.log, KeysOk x.parts) (hkm : KeysOk ps) (hn : (h.log.length + 1) * 40 ≤ 140737488351232)
    (hp : ∀ x ∈ h.log, x.parts.length * 24 ≤ 140737488355328) (hpp : ps.length * 24 ≤ 140737488355328) (hme : I64 me) (hmd : Made h) (rd : readyE h.ready dd = true) (hin : dd ∈ (noteE h ⟨2, dd, []⟩).done) :
    Calls Try.prog 50 #[v, .int .i64 me, vm] w fun e w' => ∃ v1 v2, e = .returned (.tuple #[v1, v2]) ∧ Of Ty.hs (ov (fun _ => none) w w') v1 (hearH h ⟨4, dd, hh, ps⟩) ∧ Sl Ty.ms (ov (fun _ => none) w w') v2 (hearM h me ⟨4, dd, hh, ps⟩) ∧ Grow w w' := by
  obtain ⟨al, cl, ar, cr, ad, cd, rfl⟩ := hv.hs_form
  obtain ⟨ap, cp, rfl⟩ : ∃ ap cp, vm = .agg #[.int .i64 4, .int .i64 dd, .int .i64 hh, .slice ap ps.length cp] := hm.ms_form
  have hms : Sl Ty.pt w.cell? (.slice ap ps.length cp) ps ∧ I64 4 ∧ I64 dd ∧ I64 hh := Of.ms_parts hm
  have hlg := (Of.hs_log hv).1
  have HMS := Lib.hid hms
  have HV0 := Lib.hid hv
  have HME := Lib.hid hme
  have HVO := Lib.hid (fun (W : World) (hW : Grow w W) => house_vote (d := dd) W (hv.mono hW.sub) (hms.1.mono hW.sub) hkm)
  have HIS := Lib.hid (fun (W : World) (hW : Grow w W) hb hc => house_is (B := w.heap.size) (d := dd) W hb hc ((Of.hs_log hv).2.1.mono hW.sub))
  have HHS : Hid (∀ (W : World), Grow w W → Calls Try.prog 36 #[.slice al h.log.length cl] W fun e w' => ∃ v', e = .returned v' ∧ Of Ty.hs (ov (fun _ => none) W w') v' h ∧ Grow W w') := Lib.hid (fun (W : World) (hW : Grow w W) => by
    have hx := wlog_house W (hlg.mono hW.sub) hk (by omega) hp
    rw [← (show h = houseR h.log from hmd)] at hx
    exact hx)
  have HNT := Lib.hid (fun (r : Rc) (vr : Value) (W : World) (hW : Grow w W) (hr : Of Ty.rc W.cell? vr r) (hkr : KeysOk r.parts) (hpr : r.parts.length * 24 ≤ 140737488355328) => wlog_note W (hv.mono hW.sub) hr hk hkr (by omega) hp hpr)
  have HKP := Lib.hid (And.intro hkm hpp)
  have HG4 : Hid (Grow w ((((w.alloc (.cells #[.slice al h.log.length cl, .int .i64 h.sums.a, .int .i64 h.sums.b, .int .i64 h.sums.c, .int .i64 h.sums.d, .slice ar h.ready.length cr, .slice ad h.done.length cd] 29)).alloc (.cells #[.int .i64 me] 3)).alloc (.cells #[.int .i64 4, .int .i64 dd, .int .i64 hh, .slice ap ps.length cp] 39)).alloc (.cells #[.slice none 0 0, .int .i64 0, .int .i64 0, .int .i64 0, .int .i64 0, .slice none 0 0, .slice none 0 0] 29))) := Lib.hid (((((Grow.refl w).alloc _).alloc _).alloc _).alloc _)
  have R3_0 : Hid (((((w.alloc (.cells #[.slice al h.log.length cl, .int .i64 h.sums.a, .int .i64 h.sums.b, .int .i64 h.sums.c, .int .i64 h.sums.d, .slice ar h.ready.length cr, .slice ad h.done.length cd] 29)).alloc (.cells #[.int .i64 me] 3)).alloc (.cells #[.int .i64 4, .int .i64 dd, .int .i64 hh, .slice ap ps.length cp] 39)).alloc (.cells #[.slice none 0 0, .int .i64 0, .int .i64 0, .int .i64 0, .int .i64 0, .slice none 0 0, .slice none 0 0] 29)).heap[w.heap.size]? = some (.cells #[.slice al h.log.length cl, .int .i64 h.sums.a, .int .i64 h.sums.b, .int .i64 h.sums.c, .int .i64 h.sums.d, .slice ar h.ready.length cr, .slice ad h.done.length cd] 29 (0, 0))) := Lib.hid (heap_later (heap_later (heap_later (row_new _ _) _) _) _)
  have R4_0 : Hid (((((w.alloc (.cells #[.slice al h.log.length cl, .int .i64 h.sums.a, .int .i64 h.sums.b, .int .i64 h.sums.c, .int .i64 h.sums.d, .slice ar h.ready.length cr, .slice ad h.done.length cd] 29)).alloc (.cells #[.int .i64 me] 3)).alloc (.cells #[.int .i64 4, .int .i64 dd, .int .i64 hh, .slice ap ps.length cp] 39)).alloc (.cells #[.slice none 0 0, .int .i64 0, .int .i64 0, .int .i64 0, .int .i64 0, .slice none 0 0, .slice none 0 0] 29)).heap[w.heap.size + 1]? = some (.cells #[.int .i64 me] 3 (0, 0))) := Lib.hid (heap_later (heap_later (by simpa using row_new (w.alloc (.cells #[.slice al h.log.length cl, .int .i64 h.sums.a, .int .i64 h.sums.b, .int .i64 h.sums.c, .int .i64 h.sums.d, .slice ar h.ready.length cr, .slice ad h.done.length cd] 29)) (.cells #[.int .i64 me] 3)) _) _)
  have R5_0 : Hid (((((w.alloc (.cells #[.slice al h.log.length cl, .int .i64 h.sums.a, .int .i64 h.sums.b, .int .i64 h.sums.c, .int .i64 h.sums.d, .slice ar h.ready.length cr, .slice ad h.done.length cd] 29)).alloc (.cells #[.int .i64 me] 3)).alloc (.cells #[.int .i64 4, .int .i64 dd, .int .i64 hh, .slice ap ps.length cp] 39)).alloc (.cells #[.slice none 0 0, .int .i64 0, .int .i64 0, .int .i64 0, .int .i64 0, .slice none 0 0, .slice none 0 0] 29)).heap[w.heap.size + 1 + 1]? = some (.cells #[.int .i64 4, .int .i64 dd, .int .i64 hh, .slice ap ps.length cp] 39 (0, 0))) := Lib.hid (heap_later (by simpa using row_new ((w.alloc (.cells #[.slice al h.log.length cl, .int .i64 h.sums.a, .int .i64 h.sums.b, .int .i64 h.sums.c, .int .i64 h.sums.d, .slice ar h.ready.length cr, .slice ad h.done.length cd] 29)).alloc (.cells #[.int .i64 me] 3)) (.cells #[.int .i64 4, .int .i64 dd, .int .i64 hh, .slice ap ps.length cp] 39)) _)
  have R6_0 : Hid (((((w.alloc (.cells #[.slice al h.log.length cl, .int .i64 h.sums.a, .int .i64 h.sums.b, .int .i64 h.sums.c, .int .i64 h.sums.d, .slice ar h.ready.length cr, .slice ad h.done.length cd] 29)).alloc (.cells #[.int .i64 me] 3)).alloc (.cells #[.int .i64 4, .int .i64 dd, .int .i64 hh, .slice ap ps.length cp] 39)).alloc (.cells #[.slice none 0 0, .int .i64 0, .int .i64 0, .int .i64 0, .int .i64 0, .slice none 0 0, .slice none 0 0] 29)).heap[w.heap.size + 1 + 1 + 1]? = some (.cells #[.slice none 0 0, .int .i64 0, .int .i64 0, .int .i64 0, .int .i64 0, .slice none 0 0, .slice none 0 0] 29 (0, 0))) := Lib.hid (by simpa using row_new (((w.alloc (.cells #[.slice al h.log.length cl, .int .i64 h.sums.a, .int .i64 h.sums.b, .int .i64 h.sums.c, .int .i64 h.sums.d, .slice ar h.ready.length cr, .slice ad h.done.length cd] 29)).alloc (.cells #[.int .i64 me] 3)).alloc (.cells #[.int .i64 4, .int .i64 dd, .int .i64 hh, .slice ap ps.length cp] 39)) (.cells #[.slice none 0 0, .int .i64 0, .int .i64 0, .int .i64 0, .int .i64 0, .slice none 0 0, .slice none 0 0] 29))
  clear hv hm hk hkm hn hp hpp hme hmd hms hlg
  have HEH : Hid (hearH h ⟨4, dd, hh, ps⟩ = noteE h ⟨2, dd, []⟩) := by
    show hearH h ⟨4, dd, hh, ps⟩ = noteE h ⟨2, dd, []⟩
    unfold hearH
    rw [if_neg (fun e => by cases e), if_pos rfl, if_pos rd]
  have HEM : Hid (hearM h me ⟨4, dd, hh, ps⟩ = sayE 6 dd me) := by
    show hearM h me ⟨4, dd, hh, ps⟩ = sayE 6 dd me
    unfold hearM
    rw [if_neg (fun e => by cases e), if_pos rfl, HEH.out, if_pos hin]
  have HIN2 := Lib.hid hin
  have RD := Lib.hid rd
  clear hin rd
  go_enter Try.func50, Try.ntmps50
  go_wp2_with fail
  refine (HHS.out _ HG4.out).mono ?_
  rintro e v0 ⟨vx, rfl, hX, hb0⟩
  obtain ⟨al2, cl2, ar2, cr2, ad2, cd2, rfl⟩ := hX.hs_form
  have HX0 : Hid (Of Ty.hs (win (((((w.alloc (.cells #[.slice al h.log.length cl, .int .i64 h.sums.a, .int .i64 h.sums.b, .int .i64 h.sums.c, .int .i64 h.sums.d, .slice ar h.ready.length cr, .slice ad h.done.length cd] 29)).alloc (.cells #[.int .i64 me] 3)).alloc (.cells #[.int .i64 4, .int .i64 dd, .int .i64 hh, .slice ap ps.length cp] 39)).alloc (.cells #[.slice none 0 0, .int .i64 0, .int .i64 0, .int .i64 0, .int .i64 0, .slice none 0 0, .slice none 0 0] 29))).heap.size v0.heap.size v0) _ h) := Lib.hid (hX.mono (win_ov _ _))
  have R3_v0 := Lib.hid (row_grow R3_0.out hb0)
  have R4_v0 := Lib.hid (row_grow R4_0.out hb0)
  have R5_v0 := Lib.hid (row_grow R5_0.out hb0)
  have R6_v0 := Lib.hid (row_grow R6_0.out hb0)
  have G_v0 := Lib.hid (HG4.out.trans hb0)
  clear hX hb0
  (try clear a0 a1 a2 a3 a4 a5 a6)
  (try clear b0)
  (try clear c0 c1 c2 c3)
  (try clear d0 d1 d2 d3 d4 d5 d6)
  obtain ⟨a0, a1, a2, a3, a4, a5, a6⟩ := cells7 R3_v0.out
  obtain ⟨c0, c1, c2, c3⟩ := cells4 R5_v0.out
  have R9n := row_new v0 (.cells #[.slice none 0 0, .int .i64 0, .int .i64 0, .int .i64 0, .int .i64 0, .slice none 0 0, .slice none 0 0] 29)
  go_wp2_with (first | (refine wpList_store_row rfl (.tmp 9) (.tmp 13) rfl rfl rfl R9n info_hs rfl rfl ?_))
  clear R9n
  intro v1 r1 g1
  have R9_v1 := Lib.hid r1
  have R3_v1 : Hid (v1.heap[w.heap.size]? = _) := Lib.hid (row_by (heap_later R3_v0.out _) g1 (by have := (Array.getElem?_eq_some_iff.1 R3_v0.out).1; simp; omega))
  have R4_v1 : Hid (v1.heap[w.heap.size + 1]? = _) := Lib.hid (row_by (heap_later R4_v0.out _) g1 (by have := (Array.getElem?_eq_some_iff.1 R4_v0.out).1; simp; omega))
  have R5_v1 : Hid (v1.heap[w.heap.size + 1 + 1]? = _) := Lib.hid (row_by (heap_later R5_v0.out _) g1 (by have := (Array.getElem?_eq_some_iff.1 R5_v0.out).1; simp; omega))
  have R6_v1 : Hid (v1.heap[w.heap.size + 1 + 1 + 1]? = _) := Lib.hid (row_by (heap_later R6_v0.out _) g1 (by have := (Array.getElem?_eq_some_iff.1 R6_v0.out).1; simp; omega))
  have G_v1 := Lib.hid ((G_v0.out.alloc (.cells #[.slice none 0 0, .int .i64 0, .int .i64 0, .int .i64 0, .int .i64 0, .slice none 0 0, .slice none 0 0] 29)).grown g1 (fun k hk => by have := G_v0.out.size; simp at hk; omega))
  have HY_v1 := Lib.hid ((HX0.out.mono (win_grow ((Grow.refl v0).alloc _) _ _)).mono (win_set g1 (.inr (Nat.le_refl _))))
  have HZ9 : Hid (w.heap.size + 1 + 1 + 1 < v0.heap.size) := Lib.hid (Array.getElem?_eq_some_iff.1 R6_v0.out).1
  have HLO : Hid (w.heap.size + 1 + 1 + 1 < (((((w.alloc (.cells #[.slice al h.log.length cl, .int .i64 h.sums.a, .int .i64 h.sums.b, .int .i64 h.sums.c, .int .i64 h.sums.d, .slice ar h.ready.length cr, .slice ad h.done.length cd] 29)).alloc (.cells #[.int .i64 me] 3)).alloc (.cells #[.int .i64 4, .int .i64 dd, .int .i64 hh, .slice ap ps.length cp] 39)).alloc (.cells #[.slice none 0 0, .int .i64 0, .int .i64 0, .int .i64 0, .int .i64 0, .slice none 0 0, .slice none 0 0] 29))).heap.size ∧ w.heap.size ≤ (((((w.alloc (.cells #[.slice al h.log.length cl, .int .i64 h.sums.a, .int .i64 h.sums.b, .int .i64 h.sums.c, .int .i64 h.sums.d, .slice ar h.ready.length cr, .slice ad h.done.length cd] 29)).alloc (.cells #[.int .i64 me] 3)).alloc (.cells #[.int .i64 4, .int .i64 dd, .int .i64 hh, .slice ap ps.length cp] 39)).alloc (.cells #[.slice none 0 0, .int .i64 0, .int .i64 0, .int .i64 0, .int .i64 0, .slice none 0 0, .slice none 0 0] 29))).heap.size) := Lib.hid (by simp; omega)
  have HNB : Hid (w.heap.size + 1 + 1 + 1 ≤ v1.heap.size) := Lib.hid (by have := G_v1.out.size; exact Nat.le_of_lt (Array.getElem?_eq_some_iff.1 R6_v1.out).1)
  clear r1 g1 HX0
  (try clear a0 a1 a2 a3 a4 a5 a6)
  (try clear b0)
  (try clear c0 c1 c2 c3)
  (try clear d0 d1 d2 d3 d4 d5 d6)
  obtain ⟨a0, a1, a2, a3, a4, a5, a6⟩ := cells7 R3_v1.out
  obtain ⟨c0, c1, c2, c3⟩ := cells4 R5_v1.out
  obtain ⟨d0, d1, d2, d3, d4, d5, d6⟩ := cells7 R9_v1.out
  go_wp2_with fail
  refine (HIS.out _ G_v1.out (Array.getElem?_eq_some_iff.1 R3_v1.out).1 (cells7 R3_v1.out).2.2.2.2.2.1).mono ?_
  rw [RD.out]
  rintro e v2 ⟨rfl, hbv2⟩
  have R3_v2 := Lib.hid (row_grow R3_v1.out hbv2)
  have R4_v2 := Lib.hid (row_grow R4_v1.out hbv2)
  have R5_v2 := Lib.hid (row_grow R5_v1.out hbv2)
  have R6_v2 := Lib.hid (row_grow R6_v1.out hbv2)
  have R9_v2 := Lib.hid (row_grow R9_v1.out hbv2)
  have G_v2 := Lib.hid (G_v1.out.trans hbv2)
  have HY_v2 := Lib.hid (HY_v1.out.mono (win_grow hbv2 _ _))
  clear hbv2
  (try clear a0 a1 a2 a3 a4 a5 a6)
  (try clear b0)
  (try clear c0 c1 c2 c3)
  (try clear d0 d1 d2 d3 d4 d5 d6)
  obtain ⟨a0, a1, a2, a3, a4, a5, a6⟩ := cells7 R3_v2.out
  obtain ⟨c0, c1, c2, c3⟩ := cells4 R5_v2.out
  obtain ⟨d0, d1, d2, d3, d4, d5, d6⟩ := cells7 R9_v2.out
  go_wp2_with fail
  refine (HNT.out ⟨2, dd, []⟩ _ _ G_v2.out ⟨_, rfl, _, rfl, (show I64 2 from by unfold I64; decide), HMS.out.2.2.1, Sl.nil _ _⟩ (by intro p hp; simp at hp) (by simp)).mono ?_
  rintro e v3 ⟨vx, rfl, hX, hbv3⟩
  generalize noteE h ⟨2, dd, []⟩ = x at *
  obtain ⟨al3, cl3, ar3, cr3, ad3, cd3, rfl⟩ := hX.hs_form
  have HX1 : Hid (Of Ty.hs (win v2.heap.size v3.heap.size v3) _ x) := Lib.hid (hX.mono (win_ov _ _))
  have HZV : Hid (v0.heap.size < v2.heap.size) := Lib.hid (Array.getElem?_eq_some_iff.1 R9_v2.out).1
  have R3_v3 := Lib.hid (row_grow R3_v2.out hbv3)
  have R4_v3 := Lib.hid (row_grow R4_v2.out hbv3)
  have R5_v3 := Lib.hid (row_grow R5_v2.out hbv3)
  have R6_v3 := Lib.hid (row_grow R6_v2.out hbv3)
  have R9_v3 := Lib.hid (row_grow R9_v2.out hbv3)
  have G_v3 := Lib.hid (G_v2.out.trans hbv3)
  clear hX hbv3
  (try clear a0 a1 a2 a3 a4 a5 a6)
  (try clear b0)
  (try clear c0 c1 c2 c3)
  (try clear d0 d1 d2 d3 d4 d5 d6)
  obtain ⟨a0, a1, a2, a3, a4, a5, a6⟩ := cells7 R3_v3.out
  obtain ⟨c0, c1, c2, c3⟩ := cells4 R5_v3.out
  obtain ⟨d0, d1, d2, d3, d4, d5, d6⟩ := cells7 R9_v3.out
  go_wp2_with (first | (refine wpList_store_row rfl (.tmp 9) (.tmp 55) rfl rfl rfl R9_v3.out info_hs rfl rfl ?_))
  intro v4 r2 g2
  have R9_v4 := Lib.hid r2
  have R3_v4 : Hid (v4.heap[w.heap.size]? = _) := Lib.hid (row_by R3_v3.out g2 (by have := HZ9.out; simp; omega))
  have R4_v4 : Hid (v4.heap[w.heap.size + 1]? = _) := Lib.hid (row_by R4_v3.out g2 (by have := HZ9.out; simp; omega))
  have R5_v4 : Hid (v4.heap[w.heap.size + 1 + 1]? = _) := Lib.hid (row_by R5_v3.out g2 (by have := HZ9.out; simp; omega))
  have R6_v4 : Hid (v4.heap[w.heap.size + 1 + 1 + 1]? = _) := Lib.hid (row_by R6_v3.out g2 (by have := HZ9.out; simp; omega))
  have G_v4 := Lib.hid (G_v3.out.grown g2 (fun k hk => by have := HZ9.out; simp at hk; omega))
  have HY_v4 := Lib.hid (HX1.out.mono (win_set g2 (.inl HZV.out)))
  have HLN : Hid (w.heap.size + 1 + 1 + 1 < v2.heap.size ∧ w.heap.size ≤ v2.heap.size) := Lib.hid (by have := HZ9.out; have := HZV.out; omega)
  clear r2 g2 HX1
  (try clear a0 a1 a2 a3 a4 a5 a6)
  (try clear b0)
  (try clear c0 c1 c2 c3)
  (try clear d0 d1 d2 d3 d4 d5 d6)
  obtain ⟨a0, a1, a2, a3, a4, a5, a6⟩ := cells7 R3_v4.out
  obtain ⟨c0, c1, c2, c3⟩ := cells4 R5_v4.out
  obtain ⟨d0, d1, d2, d3, d4, d5, d6⟩ := cells7 R9_v4.out
  go_wp2_with fail
  refine (contains_int (n := dd) v4 ((Of.hs_log (HY_v4.out.mono (win_sub _ _ _))).2.2)).mono ?_
  rw [decide_eq_true HIN2.out]
  rintro e v5 ⟨rfl, hbv5⟩
  have R3_v5 := Lib.hid (row_grow R3_v4.out hbv5)
  have R4_v5 := Lib.hid (row_grow R4_v4.out hbv5)
  have R5_v5 := Lib.hid (row_grow R5_v4.out hbv5)
  have R6_v5 := Lib.hid (row_grow R6_v4.out hbv5)
  have R9_v5 := Lib.hid (row_grow R9_v4.out hbv5)
  have G_v5 := Lib.hid (G_v4.out.trans hbv5)
  have HY_v5 := Lib.hid (HY_v4.out.mono (win_grow hbv5 _ _))
  clear hbv5
  (try clear a0 a1 a2 a3 a4 a5 a6)
  (try clear b0)
  (try clear c0 c1 c2 c3)
  (try clear d0 d1 d2 d3 d4 d5 d6)
  obtain ⟨a0, a1, a2, a3, a4, a5, a6⟩ := cells7 R3_v5.out
  obtain ⟨c0, c1, c2, c3⟩ := cells4 R5_v5.out
  obtain ⟨d0, d1, d2, d3, d4, d5, d6⟩ := cells7 R9_v5.out
  go_wp2_with fail
  have HS : Hid (∀ W, v5.grownBy W (some (w.heap.size + 1 + 1 + 1)) → W.cell? ⟨v0.heap.size, 0, none⟩ = some (.slice al3 x.log.length cl3) ∧ W.cell? ⟨v0.heap.size, 1, none⟩ = some (.int .i64 x.sums.a) ∧ W.cell? ⟨v0.heap.size, 2, none⟩ = some (.int .i64 x.sums.b) ∧ W.cell? ⟨v0.heap.size, 3, none⟩ = some (.int .i64 x.sums.c) ∧ W.cell? ⟨v0.heap.size, 4, none⟩ = some (.int .i64 x.sums.d) ∧ W.cell? ⟨v0.heap.size, 5, none⟩ = some (.slice ar3 x.ready.length cr3) ∧ W.cell? ⟨v0.heap.size, 6, none⟩ = some (.slice ad3 x.done.length cd3) ∧ W.cell? ⟨w.heap.size + 1 + 1, 1, none⟩ = some (.int .i64 dd) ∧ W.cell? ⟨w.heap.size + 1, 0, none⟩ = some (.int .i64 me)) := fun W hW => by
    have k : ∀ (b o : Nat) (u : Value), b ≠ w.heap.size + 1 + 1 + 1 → v5.cell? ⟨b, o, none⟩ = some u → W.cell? ⟨b, o, none⟩ = some u := fun b o u hb e => by
      rw [by_cell hW (World.block_lt_of_cell? v5 _ e) hb]; exact e
    obtain ⟨d0, d1, d2, d3, d4, d5, d6⟩ := cells7 R9_v5.out
    obtain ⟨-, c1, -, -⟩ := cells4 R5_v5.out
    have hz := HZ9.out
    exact ⟨k _ _ _ (by omega) d0, k _ _ _ (by omega) d1, k _ _ _ (by omega) d2, k _ _ _ (by omega) d3, k _ _ _ (by omega) d4, k _ _ _ (by omega) d5, k _ _ _ (by omega) d6, k _ _ _ (by omega) c1, k _ _ _ (by omega) (cell1 R4_v5.out)⟩
  (try clear a0 a1 a2 a3 a4 a5 a6)
  (try clear c0 c1 c2 c3)
  (try clear d0 d1 d2 d3 d4 d5 d6)
  refine but_start (fun w' => w'.cell? ⟨v0.heap.size, 0, none⟩ = some (.slice al3 x.log.length cl3) ∧ w'.cell? ⟨v0.heap.size, 1, none⟩ = some (.int .i64 x.sums.a) ∧ w'.cell? ⟨v0.heap.size, 2, none⟩ = some (.int .i64 x.sums.b) ∧ w'.cell? ⟨v0.heap.size, 3, none⟩ = some (.int .i64 x.sums.c) ∧ w'.cell? ⟨v0.heap.size, 4, none⟩ = some (.int .i64 x.sums.d) ∧ w'.cell? ⟨v0.heap.size, 5, none⟩ = some (.slice ar3 x.ready.length cr3) ∧ w'.cell? ⟨v0.heap.size, 6, none⟩ = some (.slice ad3 x.done.length cd3) ∧ w'.cell? ⟨w.heap.size + 1 + 1, 1, none⟩ = some (.int .i64 dd) ∧ w'.cell? ⟨w.heap.size + 1, 0, none⟩ = some (.int .i64 me)) 4 (by kernel_rfl) ?_
  obtain ⟨wd, hWd⟩ : ∃ x : World, x = v5.drew := ⟨_, rfl⟩
  rw [← hWd]
  have GD : Grow v5 wd := by rw [hWd]; exact (Grow.refl _).drew
  have zD : v5.heap.size = wd.heap.size := by rw [hWd]; rfl
  have ZD := Lib.hid zD
  clear hWd zD
  refine but_take (i := 0) (v := ?_) 6 rfl (by kernel_rfl) (by kernel_rfl) (by kernel_rfl) (by kernel_rfl) (by kernel_rfl) (fun _ _ _ h => h) (HS.out _ (grownBy_of_grow GD _)) (Or.inl ⟨by rfl, ?_⟩) ?_
  rotate_left
  · (intro w' hSw; (try dsimp only at hSw); obtain ⟨hs0, hs1, hs2, hs3, hs4, hs5, hs6, hs7, hs8⟩ := hSw; go_simp <;> with_reducible rfl)
  try simp only [Act.put, List.getElem_toArray, List.getElem_cons_zero, List.setIfInBounds_toArray, List.set_cons_zero, List.set_cons_succ]
  refine but_take (i := 1) (v := ?_) 6 rfl (by kernel_rfl) (by kernel_rfl) (by kernel_rfl) (by kernel_rfl) (by kernel_rfl) (fun _ _ _ h => h) (HS.out _ (grownBy_of_grow GD _)) (Or.inl ⟨by rfl, ?_⟩) ?_
  rotate_left
  · (intro w' hSw; (try dsimp only at hSw); obtain ⟨hs0, hs1, hs2, hs3, hs4, hs5, hs6, hs7, hs8⟩ := hSw; go_simp <;> with_reducible rfl)
  try simp only [Act.put, List.getElem_toArray, List.getElem_cons_succ, List.getElem_cons_zero, List.setIfInBounds_toArray, List.set_cons_zero, List.set_cons_succ]
  refine but_one (i := 2) (by kernel_rfl) rfl ?_
  intro K HK'
  have HK := Lib.hid HK'
  clear HK'
  skip
  try simp only [List.getElem_toArray, List.getElem_cons_succ, List.getElem_cons_zero]
  go_simp
  go_at_call 126
  refine (house_say (B5 := w.heap.size + 1 + 1) (B4 := w.heap.size + 1) wd (HS.out _ (grownBy_of_grow GD _)).2.2.2.2.2.2.2.1 (HS.out _ (grownBy_of_grow GD _)).2.2.2.2.2.2.2.2 (Nat.lt_of_lt_of_le (Array.getElem?_eq_some_iff.1 R5_v5.out).1 GD.size) (Nat.lt_of_lt_of_le (Array.getElem?_eq_some_iff.1 R4_v5.out).1 GD.size) (show I64 6 from by unfold I64; decide) HMS.out.2.2.1 HME.out).mono ?_
  rintro e wq ⟨vq, rfl, hq, hbq⟩
  have HQ : Hid (Sl Ty.ms (win wd.heap.size wq.heap.size wq) vq (sayE 6 dd me)) := Lib.hid (hq.mono (win_ov _ _))
  have HBQ := Lib.hid hbq
  clear hq hbq
  refine HK.out _ _ ⟨fun _ => HS.out _ (grownBy_of_grow (GD.trans HBQ.out) _), ?_⟩
  clear HK K
  try simp only [Act.put, List.getElem_toArray, List.getElem_cons_succ, List.getElem_cons_zero, List.setIfInBounds_toArray, List.set_cons_zero, List.set_cons_succ]
  refine but_one (i := 3) (by kernel_rfl) rfl ?_
  intro K HK'
  have HK := Lib.hid HK'
  clear HK'
  refine wanted_go rfl ?_
  try simp only [List.getElem_toArray, List.getElem_cons_succ, List.getElem_cons_zero]
  refine wp_store_row (.tmp 6) (.tmp 61) rfl rfl rfl (row_grow R6_v5.out (GD.trans HBQ.out)) info_hs rfl rfl ?_
  intro w7 r7 g7
  refine HK.out _ _ ⟨fun _ => HS.out _ (grownBy_trans (grownBy_of_grow (GD.trans HBQ.out) _) g7), ?_⟩
  clear HK K
  try simp only [Act.put]
  refine but_one (i := 4) (by kernel_rfl) rfl ?_
  intro K HK'
  have HK := Lib.hid HK'
  clear HK'
  skip
  try simp only [List.getElem_toArray, List.getElem_cons_succ, List.getElem_cons_zero]
  go_simp
  refine HK.out _ _ ⟨fun h => absurd rfl h, ?_⟩
  clear HK K
  try simp only [Act.put, List.getElem_toArray, List.getElem_cons_succ, List.getElem_cons_zero, List.setIfInBounds_toArray, List.set_cons_zero, List.set_cons_succ]
  refine but_done (by kernel_rfl) ?_
  obtain ⟨p0, p1, p2, p3, p4, p5, p6⟩ := cells7 r7
  go_wp2
  refine bodyPost_ret (v := .tuple #[.agg #[.slice al3 x.log.length cl3, .int .i64 x.sums.a, .int .i64 x.sums.b, .int .i64 x.sums.c, .int .i64 x.sums.d, .slice ar3 x.ready.length cr3, .slice ad3 x.done.length cd3], vq]) (by simp [results, Try.results50, go_sem, p0, p1, p2, p3, p4, p5, p6]) rfl ?_
  rw [HEH.out, HEM.out]
  have hzd : w.heap.size ≤ wd.heap.size := (G_v5.out.trans GD).size
  have h6 : w.heap.size + 1 + 1 + 1 < wd.heap.size := Nat.lt_of_lt_of_le (Array.getElem?_eq_some_iff.1 R6_v5.out).1 GD.size
  refine ⟨_, _, rfl, (((HY_v5.out.mono (win_grow (GD.trans HBQ.out) _ _)).mono (win_set g7 (.inl HLN.out.1))).mono (win_ovn HLN.out.2)), ((HQ.out.mono (win_set g7 (.inl h6))).mono (win_ovn hzd)), ((G_v5.out.trans GD).trans HBQ.out).grown g7 (fun k hk => by simp at hk; omega)⟩
end Go.Proofs.Ytgbhpghgohggcaa

/- Walks: Hear of the program's houses (4D, 4N). -/
namespace Go.Proofs.Ytgbhpghgohggcaa
open Go.RowKit
set_option maxRecDepth 100000 in
set_option maxHeartbeats 2000000 in
theorem phear_com4D {v vm : Value} {h : Hs} {dd hh me : Int} {ps : List Pt} (w : World) (hv : Of Ty.hs w.cell? v h) (hm : Of Ty.ms w.cell? vm ⟨4, dd, hh, ps⟩) (hk : ∀ x ∈ h.log, KeysOk x.parts) (hkm : KeysOk ps) (hn : (h.log.length + 1) * 40 ≤ 140737488351232)
    (hp : ∀ x ∈ h.log, x.parts.length * 24 ≤ 140737488355328) (hpp : ps.length * 24 ≤ 140737488355328) (hme : I64 me) (hmd : Made h) (rd : readyE h.ready dd = false) (hin : dd ∈ h.done) :
    Calls Try.prog 50 #[v, .int .i64 me, vm] w fun e w' => ∃ v1 v2, e = .returned (.tuple #[v1, v2]) ∧ Of Ty.hs (ov (fun _ => none) w w') v1 (hearH h ⟨4, dd, hh, ps⟩) ∧ Sl Ty.ms (ov (fun _ => none) w w') v2 (hearM h me ⟨4, dd, hh, ps⟩) ∧ Grow w w' := by
  obtain ⟨al, cl, ar, cr, ad, cd, rfl⟩ := hv.hs_form
  obtain ⟨ap, cp, rfl⟩ : ∃ ap cp, vm = .agg #[.int .i64 4, .int .i64 dd, .int .i64 hh, .slice ap ps.length cp] := hm.ms_form
  have hms : Sl Ty.pt w.cell? (.slice ap ps.length cp) ps ∧ I64 4 ∧ I64 dd ∧ I64 hh := Of.ms_parts hm
  have hlg := (Of.hs_log hv).1
  have HMS := Lib.hid hms
  have HV0 := Lib.hid hv
  have HME := Lib.hid hme
  have HVO := Lib.hid (fun (W : World) (hW : Grow w W) => house_vote (d := dd) W (hv.mono hW.sub) (hms.1.mono hW.sub) hkm)
  have HIS := Lib.hid (fun (W : World) (hW : Grow w W) hb hc => house_is (B := w.heap.size) (d := dd) W hb hc ((Of.hs_log hv).2.1.mono hW.sub))
  have HHS : Hid (∀ (W : World), Grow w W → Calls Try.prog 36 #[.slice al h.log.length cl] W fun e w' => ∃ v', e = .returned v' ∧ Of Ty.hs (ov (fun _ => none) W w') v' h ∧ Grow W w') := Lib.hid (fun (W : World) (hW : Grow w W) => by
    have hx := wlog_house W (hlg.mono hW.sub) hk (by omega) hp
    rw [← (show h = houseR h.log from hmd)] at hx
    exact hx)
  have HNT := Lib.hid (fun (r : Rc) (vr : Value) (W : World) (hW : Grow w W) (hr : Of Ty.rc W.cell? vr r) (hkr : KeysOk r.parts) (hpr : r.parts.length * 24 ≤ 140737488355328) => wlog_note W (hv.mono hW.sub) hr hk hkr (by omega) hp hpr)
  have HKP := Lib.hid (And.intro hkm hpp)
  have HG4 : Hid (Grow w ((((w.alloc (.cells #[.slice al h.log.length cl, .int .i64 h.sums.a, .int .i64 h.sums.b, .int .i64 h.sums.c, .int .i64 h.sums.d, .slice ar h.ready.length cr, .slice ad h.done.length cd] 29)).alloc (.cells #[.int .i64 me] 3)).alloc (.cells #[.int .i64 4, .int .i64 dd, .int .i64 hh, .slice ap ps.length cp] 39)).alloc (.cells #[.slice none 0 0, .int .i64 0, .int .i64 0, .int .i64 0, .int .i64 0, .slice none 0 0, .slice none 0 0] 29))) := Lib.hid (((((Grow.refl w).alloc _).alloc _).alloc _).alloc _)
  have R3_0 : Hid (((((w.alloc (.cells #[.slice al h.log.length cl, .int .i64 h.sums.a, .int .i64 h.sums.b, .int .i64 h.sums.c, .int .i64 h.sums.d, .slice ar h.ready.length cr, .slice ad h.done.length cd] 29)).alloc (.cells #[.int .i64 me] 3)).alloc (.cells #[.int .i64 4, .int .i64 dd, .int .i64 hh, .slice ap ps.length cp] 39)).alloc (.cells #[.slice none 0 0, .int .i64 0, .int .i64 0, .int .i64 0, .int .i64 0, .slice none 0 0, .slice none 0 0] 29)).heap[w.heap.size]? = some (.cells #[.slice al h.log.length cl, .int .i64 h.sums.a, .int .i64 h.sums.b, .int .i64 h.sums.c, .int .i64 h.sums.d, .slice ar h.ready.length cr, .slice ad h.done.length cd] 29 (0, 0))) := Lib.hid (heap_later (heap_later (heap_later (row_new _ _) _) _) _)
  have R4_0 : Hid (((((w.alloc (.cells #[.slice al h.log.length cl, .int .i64 h.sums.a, .int .i64 h.sums.b, .int .i64 h.sums.c, .int .i64 h.sums.d, .slice ar h.ready.length cr, .slice ad h.done.length cd] 29)).alloc (.cells #[.int .i64 me] 3)).alloc (.cells #[.int .i64 4, .int .i64 dd, .int .i64 hh, .slice ap ps.length cp] 39)).alloc (.cells #[.slice none 0 0, .int .i64 0, .int .i64 0, .int .i64 0, .int .i64 0, .slice none 0 0, .slice none 0 0] 29)).heap[w.heap.size + 1]? = some (.cells #[.int .i64 me] 3 (0, 0))) := Lib.hid (heap_later (heap_later (by simpa using row_new (w.alloc (.cells #[.slice al h.log.length cl, .int .i64 h.sums.a, .int .i64 h.sums.b, .int .i64 h.sums.c, .int .i64 h.sums.d, .slice ar h.ready.length cr, .slice ad h.done.length cd] 29)) (.cells #[.int .i64 me] 3)) _) _)
  have R5_0 : Hid (((((w.alloc (.cells #[.slice al h.log.length cl, .int .i64 h.sums.a, .int .i64 h.sums.b, .int .i64 h.sums.c, .int .i64 h.sums.d, .slice ar h.ready.length cr, .slice ad h.done.length cd] 29)).alloc (.cells #[.int .i64 me] 3)).alloc (.cells #[.int .i64 4, .int .i64 dd, .int .i64 hh, .slice ap ps.length cp] 39)).alloc (.cells #[.slice none 0 0, .int .i64 0, .int .i64 0, .int .i64 0, .int .i64 0, .slice none 0 0, .slice none 0 0] 29)).heap[w.heap.size + 1 + 1]? = some (.cells #[.int .i64 4, .int .i64 dd, .int .i64 hh, .slice ap ps.length cp] 39 (0, 0))) := Lib.hid (heap_later (by simpa using row_new ((w.alloc (.cells #[.slice al h.log.length cl, .int .i64 h.sums.a, .int .i64 h.sums.b, .int .i64 h.sums.c, .int .i64 h.sums.d, .slice ar h.ready.length cr, .slice ad h.done.length cd] 29)).alloc (.cells #[.int .i64 me] 3)) (.cells #[.int .i64 4, .int .i64 dd, .int .i64 hh, .slice ap ps.length cp] 39)) _)
  have R6_0 : Hid (((((w.alloc (.cells #[.slice al h.log.length cl, .int .i64 h.sums.a, .int .i64 h.sums.b, .int .i64 h.sums.c, .int .i64 h.sums.d, .slice ar h.ready.length cr, .slice ad h.done.length cd] 29)).alloc (.cells #[.int .i64 me] 3)).alloc (.cells #[.int .i64 4, .int .i64 dd, .int .i64 hh, .slice ap ps.length cp] 39)).alloc (.cells #[.slice none 0 0, .int .i64 0, .int .i64 0, .int .i64 0, .int .i64 0, .slice none 0 0, .slice none 0 0] 29)).heap[w.heap.size + 1 + 1 + 1]? = some (.cells #[.slice none 0 0, .int .i64 0, .int .i64 0, .int .i64 0, .int .i64 0, .slice none 0 0, .slice none 0 0] 29 (0, 0))) := Lib.hid (by simpa using row_new (((w.alloc (.cells #[.slice al h.log.length cl, .int .i64 h.sums.a, .int .i64 h.sums.b, .int .i64 h.sums.c, .int .i64 h.sums.d, .slice ar h.ready.length cr, .slice ad h.done.length cd] 29)).alloc (.cells #[.int .i64 me] 3)).alloc (.cells #[.int .i64 4, .int .i64 dd, .int .i64 hh, .slice ap ps.length cp] 39)) (.cells #[.slice none 0 0, .int .i64 0, .int .i64 0, .int .i64 0, .int .i64 0, .slice none 0 0, .slice none 0 0] 29))
  clear hv hm hk hkm hn hp hpp hme hmd hms hlg
  have HEH : Hid (hearH h ⟨4, dd, hh, ps⟩ = h) := by
    show hearH h ⟨4, dd, hh, ps⟩ = h
    unfold hearH
    rw [if_neg (fun e => by cases e), if_pos rfl, if_neg (by rw [show readyE h.ready (Ms.deed ⟨4, dd, hh, ps⟩) = false from rd]; simp)]
  have HEM : Hid (hearM h me ⟨4, dd, hh, ps⟩ = sayE 6 dd me) := by
    show hearM h me ⟨4, dd, hh, ps⟩ = sayE 6 dd me
    unfold hearM
    rw [if_neg (fun e => by cases e), if_pos rfl, HEH.out, if_pos hin]
  have HIN2 := Lib.hid hin
  have RD := Lib.hid rd
  clear hin rd
  go_enter Try.func50, Try.ntmps50
  go_wp2_with fail
  refine (HHS.out _ HG4.out).mono ?_
  rintro e v0 ⟨vx, rfl, hX, hb0⟩
  obtain ⟨al2, cl2, ar2, cr2, ad2, cd2, rfl⟩ := hX.hs_form
  have HX0 : Hid (Of Ty.hs (win (((((w.alloc (.cells #[.slice al h.log.length cl, .int .i64 h.sums.a, .int .i64 h.sums.b, .int .i64 h.sums.c, .int .i64 h.sums.d, .slice ar h.ready.length cr, .slice ad h.done.length cd] 29)).alloc (.cells #[.int .i64 me] 3)).alloc (.cells #[.int .i64 4, .int .i64 dd, .int .i64 hh, .slice ap ps.length cp] 39)).alloc (.cells #[.slice none 0 0, .int .i64 0, .int .i64 0, .int .i64 0, .int .i64 0, .slice none 0 0, .slice none 0 0] 29))).heap.size v0.heap.size v0) _ h) := Lib.hid (hX.mono (win_ov _ _))
  have R3_v0 := Lib.hid (row_grow R3_0.out hb0)
  have R4_v0 := Lib.hid (row_grow R4_0.out hb0)
  have R5_v0 := Lib.hid (row_grow R5_0.out hb0)
  have R6_v0 := Lib.hid (row_grow R6_0.out hb0)
  have G_v0 := Lib.hid (HG4.out.trans hb0)
  clear hX hb0
  (try clear a0 a1 a2 a3 a4 a5 a6)
  (try clear b0)
  (try clear c0 c1 c2 c3)
  (try clear d0 d1 d2 d3 d4 d5 d6)
  obtain ⟨a0, a1, a2, a3, a4, a5, a6⟩ := cells7 R3_v0.out
  obtain ⟨c0, c1, c2, c3⟩ := cells4 R5_v0.out
  have R9n := row_new v0 (.cells #[.slice none 0 0, .int .i64 0, .int .i64 0, .int .i64 0, .int .i64 0, .slice none 0 0, .slice none 0 0] 29)
  go_wp2_with (first | (refine wpList_store_row rfl (.tmp 9) (.tmp 13) rfl rfl rfl R9n info_hs rfl rfl ?_))
  clear R9n
  intro v1 r1 g1
  have R9_v1 := Lib.hid r1
  have R3_v1 : Hid (v1.heap[w.heap.size]? = _) := Lib.hid (row_by (heap_later R3_v0.out _) g1 (by have := (Array.getElem?_eq_some_iff.1 R3_v0.out).1; simp; omega))
  have R4_v1 : Hid (v1.heap[w.heap.size + 1]? = _) := Lib.hid (row_by (heap_later R4_v0.out _) g1 (by have := (Array.getElem?_eq_some_iff.1 R4_v0.out).1; simp; omega))
  have R5_v1 : Hid (v1.heap[w.heap.size + 1 + 1]? = _) := Lib.hid (row_by (heap_later R5_v0.out _) g1 (by have := (Array.getElem?_eq_some_iff.1 R5_v0.out).1; simp; omega))
  have R6_v1 : Hid (v1.heap[w.heap.size + 1 + 1 + 1]? = _) := Lib.hid (row_by (heap_later R6_v0.out _) g1 (by have := (Array.getElem?_eq_some_iff.1 R6_v0.out).1; simp; omega))
  have G_v1 := Lib.hid ((G_v0.out.alloc (.cells #[.slice none 0 0, .int .i64 0, .int .i64 0, .int .i64 0, .int .i64 0, .slice none 0 0, .slice none 0 0] 29)).grown g1 (fun k hk => by have := G_v0.out.size; simp at hk; omega))
  have HY_v1 := Lib.hid ((HX0.out.mono (win_grow ((Grow.refl v0).alloc _) _ _)).mono (win_set g1 (.inr (Nat.le_refl _))))
  have HZ9 : Hid (w.heap.size + 1 + 1 + 1 < v0.heap.size) := Lib.hid (Array.getElem?_eq_some_iff.1 R6_v0.out).1
  have HLO : Hid (w.heap.size + 1 + 1 + 1 < (((((w.alloc (.cells #[.slice al h.log.length cl, .int .i64 h.sums.a, .int .i64 h.sums.b, .int .i64 h.sums.c, .int .i64 h.sums.d, .slice ar h.ready.length cr, .slice ad h.done.length cd] 29)).alloc (.cells #[.int .i64 me] 3)).alloc (.cells #[.int .i64 4, .int .i64 dd, .int .i64 hh, .slice ap ps.length cp] 39)).alloc (.cells #[.slice none 0 0, .int .i64 0, .int .i64 0, .int .i64 0, .int .i64 0, .slice none 0 0, .slice none 0 0] 29))).heap.size ∧ w.heap.size ≤ (((((w.alloc (.cells #[.slice al h.log.length cl, .int .i64 h.sums.a, .int .i64 h.sums.b, .int .i64 h.sums.c, .int .i64 h.sums.d, .slice ar h.ready.length cr, .slice ad h.done.length cd] 29)).alloc (.cells #[.int .i64 me] 3)).alloc (.cells #[.int .i64 4, .int .i64 dd, .int .i64 hh, .slice ap ps.length cp] 39)).alloc (.cells #[.slice none 0 0, .int .i64 0, .int .i64 0, .int .i64 0, .int .i64 0, .slice none 0 0, .slice none 0 0] 29))).heap.size) := Lib.hid (by simp; omega)
  have HNB : Hid (w.heap.size + 1 + 1 + 1 ≤ v1.heap.size) := Lib.hid (by have := G_v1.out.size; exact Nat.le_of_lt (Array.getElem?_eq_some_iff.1 R6_v1.out).1)
  clear r1 g1 HX0
  (try clear a0 a1 a2 a3 a4 a5 a6)
  (try clear b0)
  (try clear c0 c1 c2 c3)
  (try clear d0 d1 d2 d3 d4 d5 d6)
  obtain ⟨a0, a1, a2, a3, a4, a5, a6⟩ := cells7 R3_v1.out
  obtain ⟨c0, c1, c2, c3⟩ := cells4 R5_v1.out
  obtain ⟨d0, d1, d2, d3, d4, d5, d6⟩ := cells7 R9_v1.out
  go_wp2_with fail
  refine (HIS.out _ G_v1.out (Array.getElem?_eq_some_iff.1 R3_v1.out).1 (cells7 R3_v1.out).2.2.2.2.2.1).mono ?_
  rw [RD.out]
  rintro e v2 ⟨rfl, hbv2⟩
  have R3_v2 := Lib.hid (row_grow R3_v1.out hbv2)
  have R4_v2 := Lib.hid (row_grow R4_v1.out hbv2)
  have R5_v2 := Lib.hid (row_grow R5_v1.out hbv2)
  have R6_v2 := Lib.hid (row_grow R6_v1.out hbv2)
  have R9_v2 := Lib.hid (row_grow R9_v1.out hbv2)
  have G_v2 := Lib.hid (G_v1.out.trans hbv2)
  have HY_v2 := Lib.hid (HY_v1.out.mono (win_grow hbv2 _ _))
  clear hbv2
  (try clear a0 a1 a2 a3 a4 a5 a6)
  (try clear b0)
  (try clear c0 c1 c2 c3)
  (try clear d0 d1 d2 d3 d4 d5 d6)
  obtain ⟨a0, a1, a2, a3, a4, a5, a6⟩ := cells7 R3_v2.out
  obtain ⟨c0, c1, c2, c3⟩ := cells4 R5_v2.out
  obtain ⟨d0, d1, d2, d3, d4, d5, d6⟩ := cells7 R9_v2.out
  go_wp2_with fail
  refine (contains_int (n := dd) v2 ((Of.hs_log (HY_v2.out.mono (win_sub _ _ _))).2.2)).mono ?_
  rw [decide_eq_true HIN2.out]
  rintro e v3 ⟨rfl, hbv3⟩
  have R3_v3 := Lib.hid (row_grow R3_v2.out hbv3)
  have R4_v3 := Lib.hid (row_grow R4_v2.out hbv3)
  have R5_v3 := Lib.hid (row_grow R5_v2.out hbv3)
  have R6_v3 := Lib.hid (row_grow R6_v2.out hbv3)
  have R9_v3 := Lib.hid (row_grow R9_v2.out hbv3)
  have G_v3 := Lib.hid (G_v2.out.trans hbv3)
  have HY_v3 := Lib.hid (HY_v2.out.mono (win_grow hbv3 _ _))
  clear hbv3
  (try clear a0 a1 a2 a3 a4 a5 a6)
  (try clear b0)
  (try clear c0 c1 c2 c3)
  (try clear d0 d1 d2 d3 d4 d5 d6)
  obtain ⟨a0, a1, a2, a3, a4, a5, a6⟩ := cells7 R3_v3.out
  obtain ⟨c0, c1, c2, c3⟩ := cells4 R5_v3.out
  obtain ⟨d0, d1, d2, d3, d4, d5, d6⟩ := cells7 R9_v3.out
  go_wp2_with fail
  have HS : Hid (∀ W, v3.grownBy W (some (w.heap.size + 1 + 1 + 1)) → W.cell? ⟨v0.heap.size, 0, none⟩ = some (.slice al2 h.log.length cl2) ∧ W.cell? ⟨v0.heap.size, 1, none⟩ = some (.int .i64 h.sums.a) ∧ W.cell? ⟨v0.heap.size, 2, none⟩ = some (.int .i64 h.sums.b) ∧ W.cell? ⟨v0.heap.size, 3, none⟩ = some (.int .i64 h.sums.c) ∧ W.cell? ⟨v0.heap.size, 4, none⟩ = some (.int .i64 h.sums.d) ∧ W.cell? ⟨v0.heap.size, 5, none⟩ = some (.slice ar2 h.ready.length cr2) ∧ W.cell? ⟨v0.heap.size, 6, none⟩ = some (.slice ad2 h.done.length cd2) ∧ W.cell? ⟨w.heap.size + 1 + 1, 1, none⟩ = some (.int .i64 dd) ∧ W.cell? ⟨w.heap.size + 1, 0, none⟩ = some (.int .i64 me)) := fun W hW => by
    have k : ∀ (b o : Nat) (u : Value), b ≠ w.heap.size + 1 + 1 + 1 → v3.cell? ⟨b, o, none⟩ = some u → W.cell? ⟨b, o, none⟩ = some u := fun b o u hb e => by
      rw [by_cell hW (World.block_lt_of_cell? v3 _ e) hb]; exact e
    obtain ⟨d0, d1, d2, d3, d4, d5, d6⟩ := cells7 R9_v3.out
    obtain ⟨-, c1, -, -⟩ := cells4 R5_v3.out
    have hz := HZ9.out
    exact ⟨k _ _ _ (by omega) d0, k _ _ _ (by omega) d1, k _ _ _ (by omega) d2, k _ _ _ (by omega) d3, k _ _ _ (by omega) d4, k _ _ _ (by omega) d5, k _ _ _ (by omega) d6, k _ _ _ (by omega) c1, k _ _ _ (by omega) (cell1 R4_v3.out)⟩
  (try clear a0 a1 a2 a3 a4 a5 a6)
  (try clear c0 c1 c2 c3)
  (try clear d0 d1 d2 d3 d4 d5 d6)
  refine but_start (fun w' => w'.cell? ⟨v0.heap.size, 0, none⟩ = some (.slice al2 h.log.length cl2) ∧ w'.cell? ⟨v0.heap.size, 1, none⟩ = some (.int .i64 h.sums.a) ∧ w'.cell? ⟨v0.heap.size, 2, none⟩ = some (.int .i64 h.sums.b) ∧ w'.cell? ⟨v0.heap.size, 3, none⟩ = some (.int .i64 h.sums.c) ∧ w'.cell? ⟨v0.heap.size, 4, none⟩ = some (.int .i64 h.sums.d) ∧ w'.cell? ⟨v0.heap.size, 5, none⟩ = some (.slice ar2 h.ready.length cr2) ∧ w'.cell? ⟨v0.heap.size, 6, none⟩ = some (.slice ad2 h.done.length cd2) ∧ w'.cell? ⟨w.heap.size + 1 + 1, 1, none⟩ = some (.int .i64 dd) ∧ w'.cell? ⟨w.heap.size + 1, 0, none⟩ = some (.int .i64 me)) 4 (by kernel_rfl) ?_
  obtain ⟨wd, hWd⟩ : ∃ x : World, x = v3.drew := ⟨_, rfl⟩
  rw [← hWd]
  have GD : Grow v3 wd := by rw [hWd]; exact (Grow.refl _).drew
  have zD : v3.heap.size = wd.heap.size := by rw [hWd]; rfl
  have ZD := Lib.hid zD
  clear hWd zD
  refine but_take (i := 0) (v := ?_) 6 rfl (by kernel_rfl) (by kernel_rfl) (by kernel_rfl) (by kernel_rfl) (by kernel_rfl) (fun _ _ _ h => h) (HS.out _ (grownBy_of_grow GD _)) (Or.inl ⟨by rfl, ?_⟩) ?_
  rotate_left
  · (intro w' hSw; (try dsimp only at hSw); obtain ⟨hs0, hs1, hs2, hs3, hs4, hs5, hs6, hs7, hs8⟩ := hSw; go_simp <;> with_reducible rfl)
  try simp only [Act.put, List.getElem_toArray, List.getElem_cons_zero, List.setIfInBounds_toArray, List.set_cons_zero, List.set_cons_succ]
  refine but_take (i := 1) (v := ?_) 6 rfl (by kernel_rfl) (by kernel_rfl) (by kernel_rfl) (by kernel_rfl) (by kernel_rfl) (fun _ _ _ h => h) (HS.out _ (grownBy_of_grow GD _)) (Or.inl ⟨by rfl, ?_⟩) ?_
  rotate_left
  · (intro w' hSw; (try dsimp only at hSw); obtain ⟨hs0, hs1, hs2, hs3, hs4, hs5, hs6, hs7, hs8⟩ := hSw; go_simp <;> with_reducible rfl)
  try simp only [Act.put, List.getElem_toArray, List.getElem_cons_succ, List.getElem_cons_zero, List.setIfInBounds_toArray, List.set_cons_zero, List.set_cons_succ]
  refine but_one (i := 2) (by kernel_rfl) rfl ?_
  intro K HK'
  have HK := Lib.hid HK'
  clear HK'
  skip
  try simp only [List.getElem_toArray, List.getElem_cons_succ, List.getElem_cons_zero]
  go_simp
  go_at_call 126
  refine (house_say (B5 := w.heap.size + 1 + 1) (B4 := w.heap.size + 1) wd (HS.out _ (grownBy_of_grow GD _)).2.2.2.2.2.2.2.1 (HS.out _ (grownBy_of_grow GD _)).2.2.2.2.2.2.2.2 (Nat.lt_of_lt_of_le (Array.getElem?_eq_some_iff.1 R5_v3.out).1 GD.size) (Nat.lt_of_lt_of_le (Array.getElem?_eq_some_iff.1 R4_v3.out).1 GD.size) (show I64 6 from by unfold I64; decide) HMS.out.2.2.1 HME.out).mono ?_
  rintro e wq ⟨vq, rfl, hq, hbq⟩
  have HQ : Hid (Sl Ty.ms (win wd.heap.size wq.heap.size wq) vq (sayE 6 dd me)) := Lib.hid (hq.mono (win_ov _ _))
  have HBQ := Lib.hid hbq
  clear hq hbq
  refine HK.out _ _ ⟨fun _ => HS.out _ (grownBy_of_grow (GD.trans HBQ.out) _), ?_⟩
  clear HK K
  try simp only [Act.put, List.getElem_toArray, List.getElem_cons_succ, List.getElem_cons_zero, List.setIfInBounds_toArray, List.set_cons_zero, List.set_cons_succ]
  refine but_one (i := 3) (by kernel_rfl) rfl ?_
  intro K HK'
  have HK := Lib.hid HK'
  clear HK'
  refine wanted_go rfl ?_
  try simp only [List.getElem_toArray, List.getElem_cons_succ, List.getElem_cons_zero]
  refine wp_store_row (.tmp 6) (.tmp 61) rfl rfl rfl (row_grow R6_v3.out (GD.trans HBQ.out)) info_hs rfl rfl ?_
  intro w7 r7 g7
  refine HK.out _ _ ⟨fun _ => HS.out _ (grownBy_trans (grownBy_of_grow (GD.trans HBQ.out) _) g7), ?_⟩
  clear HK K
  try simp only [Act.put]
  refine but_one (i := 4) (by kernel_rfl) rfl ?_
  intro K HK'
  have HK := Lib.hid HK'
  clear HK'
  skip
  try simp only [List.getElem_toArray, List.getElem_cons_succ, List.getElem_cons_zero]
  go_simp
  refine HK.out _ _ ⟨fun h => absurd rfl h, ?_⟩
  clear HK K
  try simp only [Act.put, List.getElem_toArray, List.getElem_cons_succ, List.getElem_cons_zero, List.setIfInBounds_toArray, List.set_cons_zero, List.set_cons_succ]
  refine but_done (by kernel_rfl) ?_
  obtain ⟨p0, p1, p2, p3, p4, p5, p6⟩ := cells7 r7
  go_wp2
  refine bodyPost_ret (v := .tuple #[.agg #[.slice al2 h.log.length cl2, .int .i64 h.sums.a, .int .i64 h.sums.b, .int .i64 h.sums.c, .int .i64 h.sums.d, .slice ar2 h.ready.length cr2, .slice ad2 h.done.length cd2], vq]) (by simp [results, Try.results50, go_sem, p0, p1, p2, p3, p4, p5, p6]) rfl ?_
  rw [HEH.out, HEM.out]
  have hzd : w.heap.size ≤ wd.heap.size := (G_v3.out.trans GD).size
  have h6 : w.heap.size + 1 + 1 + 1 < wd.heap.size := Nat.lt_of_lt_of_le (Array.getElem?_eq_some_iff.1 R6_v3.out).1 GD.size
  refine ⟨_, _, rfl, (((HY_v3.out.mono (win_grow (GD.trans HBQ.out) _ _)).mono (win_set g7 (.inl HLO.out.1))).mono (win_ovn HLO.out.2)), ((HQ.out.mono (win_set g7 (.inl h6))).mono (win_ovn hzd)), ((G_v3.out.trans GD).trans HBQ.out).grown g7 (fun k hk => by simp at hk; omega)⟩
set_option maxRecDepth 100000 in
set_option maxHeartbeats 2000000 in
theorem phear_com4N {v vm : Value} {h : Hs} {dd hh me : Int} {ps : List Pt} (w : World) (hv : Of Ty.hs w.cell? v h) (hm : Of Ty.ms w.cell? vm ⟨4, dd, hh, ps⟩) (hk : ∀ x ∈ h.log, KeysOk x.parts) (hkm : KeysOk ps) (hn : (h.log.length + 1) * 40 ≤ 140737488351232)
    (hp : ∀ x ∈ h.log, x.parts.length * 24 ≤ 140737488355328) (hpp : ps.length * 24 ≤ 140737488355328) (hme : I64 me) (hmd : Made h) (rd : readyE h.ready dd = false) (hin : dd ∉ h.done) :
    Calls Try.prog 50 #[v, .int .i64 me, vm] w fun e w' => ∃ v1 v2, e = .returned (.tuple #[v1, v2]) ∧ Of Ty.hs (ov (fun _ => none) w w') v1 (hearH h ⟨4, dd, hh, ps⟩) ∧ Sl Ty.ms (ov (fun _ => none) w w') v2 (hearM h me ⟨4, dd, hh, ps⟩) ∧ Grow w w' := by
  obtain ⟨al, cl, ar, cr, ad, cd, rfl⟩ := hv.hs_form
  obtain ⟨ap, cp, rfl⟩ : ∃ ap cp, vm = .agg #[.int .i64 4, .int .i64 dd, .int .i64 hh, .slice ap ps.length cp] := hm.ms_form
  have hms : Sl Ty.pt w.cell? (.slice ap ps.length cp) ps ∧ I64 4 ∧ I64 dd ∧ I64 hh := Of.ms_parts hm
  have hlg := (Of.hs_log hv).1
  have HMS := Lib.hid hms
  have HV0 := Lib.hid hv
  have HME := Lib.hid hme
  have HVO := Lib.hid (fun (W : World) (hW : Grow w W) => house_vote (d := dd) W (hv.mono hW.sub) (hms.1.mono hW.sub) hkm)
  have HIS := Lib.hid (fun (W : World) (hW : Grow w W) hb hc => house_is (B := w.heap.size) (d := dd) W hb hc ((Of.hs_log hv).2.1.mono hW.sub))
  have HHS : Hid (∀ (W : World), Grow w W → Calls Try.prog 36 #[.slice al h.log.length cl] W fun e w' => ∃ v', e = .returned v' ∧ Of Ty.hs (ov (fun _ => none) W w') v' h ∧ Grow W w') := Lib.hid (fun (W : World) (hW : Grow w W) => by
    have hx := wlog_house W (hlg.mono hW.sub) hk (by omega) hp
    rw [← (show h = houseR h.log from hmd)] at hx
    exact hx)
  have HNT := Lib.hid (fun (r : Rc) (vr : Value) (W : World) (hW : Grow w W) (hr : Of Ty.rc W.cell? vr r) (hkr : KeysOk r.parts) (hpr : r.parts.length * 24 ≤ 140737488355328) => wlog_note W (hv.mono hW.sub) hr hk hkr (by omega) hp hpr)
  have HKP := Lib.hid (And.intro hkm hpp)
  have HG4 : Hid (Grow w ((((w.alloc (.cells #[.slice al h.log.length cl, .int .i64 h.sums.a, .int .i64 h.sums.b, .int .i64 h.sums.c, .int .i64 h.sums.d, .slice ar h.ready.length cr, .slice ad h.done.length cd] 29)).alloc (.cells #[.int .i64 me] 3)).alloc (.cells #[.int .i64 4, .int .i64 dd, .int .i64 hh, .slice ap ps.length cp] 39)).alloc (.cells #[.slice none 0 0, .int .i64 0, .int .i64 0, .int .i64 0, .int .i64 0, .slice none 0 0, .slice none 0 0] 29))) := Lib.hid (((((Grow.refl w).alloc _).alloc _).alloc _).alloc _)
  have R3_0 : Hid (((((w.alloc (.cells #[.slice al h.log.length cl, .int .i64 h.sums.a, .int .i64 h.sums.b, .int .i64 h.sums.c, .int .i64 h.sums.d, .slice ar h.ready.length cr, .slice ad h.done.length cd] 29)).alloc (.cells #[.int .i64 me] 3)).alloc (.cells #[.int .i64 4, .int .i64 dd, .int .i64 hh, .slice ap ps.length cp] 39)).alloc (.cells #[.slice none 0 0, .int .i64 0, .int .i64 0, .int .i64 0, .int .i64 0, .slice none 0 0, .slice none 0 0] 29)).heap[w.heap.size]? = some (.cells #[.slice al h.log.length cl, .int .i64 h.sums.a, .int .i64 h.sums.b, .int .i64 h.sums.c, .int .i64 h.sums.d, .slice ar h.ready.length cr, .slice ad h.done.length cd] 29 (0, 0))) := Lib.hid (heap_later (heap_later (heap_later (row_new _ _) _) _) _)
  have R4_0 : Hid (((((w.alloc (.cells #[.slice al h.log.length cl, .int .i64 h.sums.a, .int .i64 h.sums.b, .int .i64 h.sums.c, .int .i64 h.sums.d, .slice ar h.ready.length cr, .slice ad h.done.length cd] 29)).alloc (.cells #[.int .i64 me] 3)).alloc (.cells #[.int .i64 4, .int .i64 dd, .int .i64 hh, .slice ap ps.length cp] 39)).alloc (.cells #[.slice none 0 0, .int .i64 0, .int .i64 0, .int .i64 0, .int .i64 0, .slice none 0 0, .slice none 0 0] 29)).heap[w.heap.size + 1]? = some (.cells #[.int .i64 me] 3 (0, 0))) := Lib.hid (heap_later (heap_later (by simpa using row_new (w.alloc (.cells #[.slice al h.log.length cl, .int .i64 h.sums.a, .int .i64 h.sums.b, .int .i64 h.sums.c, .int .i64 h.sums.d, .slice ar h.ready.length cr, .slice ad h.done.length cd] 29)) (.cells #[.int .i64 me] 3)) _) _)
  have R5_0 : Hid (((((w.alloc (.cells #[.slice al h.log.length cl, .int .i64 h.sums.a, .int .i64 h.sums.b, .int .i64 h.sums.c, .int .i64 h.sums.d, .slice ar h.ready.length cr, .slice ad h.done.length cd] 29)).alloc (.cells #[.int .i64 me] 3)).alloc (.cells #[.int .i64 4, .int .i64 dd, .int .i64 hh, .slice ap ps.length cp] 39)).alloc (.cells #[.slice none 0 0, .int .i64 0, .int .i64 0, .int .i64 0, .int .i64 0, .slice none 0 0, .slice none 0 0] 29)).heap[w.heap.size + 1 + 1]? = some (.cells #[.int .i64 4, .int .i64 dd, .int .i64 hh, .slice ap ps.length cp] 39 (0, 0))) := Lib.hid (heap_later (by simpa using row_new ((w.alloc (.cells #[.slice al h.log.length cl, .int .i64 h.sums.a, .int .i64 h.sums.b, .int .i64 h.sums.c, .int .i64 h.sums.d, .slice ar h.ready.length cr, .slice ad h.done.length cd] 29)).alloc (.cells #[.int .i64 me] 3)) (.cells #[.int .i64 4, .int .i64 dd, .int .i64 hh, .slice ap ps.length cp] 39)) _)
  have R6_0 : Hid (((((w.alloc (.cells #[.slice al h.log.length cl, .int .i64 h.sums.a, .int .i64 h.sums.b, .int .i64 h.sums.c, .int .i64 h.sums.d, .slice ar h.ready.length cr, .slice ad h.done.length cd] 29)).alloc (.cells #[.int .i64 me] 3)).alloc (.cells #[.int .i64 4, .int .i64 dd, .int .i64 hh, .slice ap ps.length cp] 39)).alloc (.cells #[.slice none 0 0, .int .i64 0, .int .i64 0, .int .i64 0, .int .i64 0, .slice none 0 0, .slice none 0 0] 29)).heap[w.heap.size + 1 + 1 + 1]? = some (.cells #[.slice none 0 0, .int .i64 0, .int .i64 0, .int .i64 0, .int .i64 0, .slice none 0 0, .slice none 0 0] 29 (0, 0))) := Lib.hid (by simpa using row_new (((w.alloc (.cells #[.slice al h.log.length cl, .int .i64 h.sums.a, .int .i64 h.sums.b, .int .i64 h.sums.c, .int .i64 h.sums.d, .slice ar h.ready.length cr, .slice ad h.done.length cd] 29)).alloc (.cells #[.int .i64 me] 3)).alloc (.cells #[.int .i64 4, .int .i64 dd, .int .i64 hh, .slice ap ps.length cp] 39)) (.cells #[.slice none 0 0, .int .i64 0, .int .i64 0, .int .i64 0, .int .i64 0, .slice none 0 0, .slice none 0 0] 29))
  clear hv hm hk hkm hn hp hpp hme hmd hms hlg
  have HEH : Hid (hearH h ⟨4, dd, hh, ps⟩ = h) := by
    show hearH h ⟨4, dd, hh, ps⟩ = h
    unfold hearH
    rw [if_neg (fun e => by cases e), if_pos rfl, if_neg (by rw [show readyE h.ready (Ms.deed ⟨4, dd, hh, ps⟩) = false from rd]; simp)]
  have HEM : Hid (hearM h me ⟨4, dd, hh, ps⟩ = []) := by
    show hearM h me ⟨4, dd, hh, ps⟩ = []
    unfold hearM
    rw [if_neg (fun e => by cases e), if_pos rfl, HEH.out, if_neg hin]
  have HIN2 := Lib.hid hin
  have RD := Lib.hid rd
  clear hin rd
  go_enter Try.func50, Try.ntmps50
  go_wp2_with fail
  refine (HHS.out _ HG4.out).mono ?_
  rintro e v0 ⟨vx, rfl, hX, hb0⟩
  obtain ⟨al2, cl2, ar2, cr2, ad2, cd2, rfl⟩ := hX.hs_form
  have HX0 : Hid (Of Ty.hs (win (((((w.alloc (.cells #[.slice al h.log.length cl, .int .i64 h.sums.a, .int .i64 h.sums.b, .int .i64 h.sums.c, .int .i64 h.sums.d, .slice ar h.ready.length cr, .slice ad h.done.length cd] 29)).alloc (.cells #[.int .i64 me] 3)).alloc (.cells #[.int .i64 4, .int .i64 dd, .int .i64 hh, .slice ap ps.length cp] 39)).alloc (.cells #[.slice none 0 0, .int .i64 0, .int .i64 0, .int .i64 0, .int .i64 0, .slice none 0 0, .slice none 0 0] 29))).heap.size v0.heap.size v0) _ h) := Lib.hid (hX.mono (win_ov _ _))
  have R3_v0 := Lib.hid (row_grow R3_0.out hb0)
  have R4_v0 := Lib.hid (row_grow R4_0.out hb0)
  have R5_v0 := Lib.hid (row_grow R5_0.out hb0)
  have R6_v0 := Lib.hid (row_grow R6_0.out hb0)
  have G_v0 := Lib.hid (HG4.out.trans hb0)
  clear hX hb0
  (try clear a0 a1 a2 a3 a4 a5 a6)
  (try clear b0)
  (try clear c0 c1 c2 c3)
  (try clear d0 d1 d2 d3 d4 d5 d6)
  obtain ⟨a0, a1, a2, a3, a4, a5, a6⟩ := cells7 R3_v0.out
  obtain ⟨c0, c1, c2, c3⟩ := cells4 R5_v0.out
  have R9n := row_new v0 (.cells #[.slice none 0 0, .int .i64 0, .int .i64 0, .int .i64 0, .int .i64 0, .slice none 0 0, .slice none 0 0] 29)
  go_wp2_with (first | (refine wpList_store_row rfl (.tmp 9) (.tmp 13) rfl rfl rfl R9n info_hs rfl rfl ?_))
  clear R9n
  intro v1 r1 g1
  have R9_v1 := Lib.hid r1
  have R3_v1 : Hid (v1.heap[w.heap.size]? = _) := Lib.hid (row_by (heap_later R3_v0.out _) g1 (by have := (Array.getElem?_eq_some_iff.1 R3_v0.out).1; simp; omega))
  have R4_v1 : Hid (v1.heap[w.heap.size + 1]? = _) := Lib.hid (row_by (heap_later R4_v0.out _) g1 (by have := (Array.getElem?_eq_some_iff.1 R4_v0.out).1; simp; omega))
  have R5_v1 : Hid (v1.heap[w.heap.size + 1 + 1]? = _) := Lib.hid (row_by (heap_later R5_v0.out _) g1 (by have := (Array.getElem?_eq_some_iff.1 R5_v0.out).1; simp; omega))
  have R6_v1 : Hid (v1.heap[w.heap.size + 1 + 1 + 1]? = _) := Lib.hid (row_by (heap_later R6_v0.out _) g1 (by have := (Array.getElem?_eq_some_iff.1 R6_v0.out).1; simp; omega))
  have G_v1 := Lib.hid ((G_v0.out.alloc (.cells #[.slice none 0 0, .int .i64 0, .int .i64 0, .int .i64 0, .int .i64 0, .slice none 0 0, .slice none 0 0] 29)).grown g1 (fun k hk => by have := G_v0.out.size; simp at hk; omega))
  have HY_v1 := Lib.hid ((HX0.out.mono (win_grow ((Grow.refl v0).alloc _) _ _)).mono (win_set g1 (.inr (Nat.le_refl _))))
  have HZ9 : Hid (w.heap.size + 1 + 1 + 1 < v0.heap.size) := Lib.hid (Array.getElem?_eq_some_iff.1 R6_v0.out).1
  have HLO : Hid (w.heap.size + 1 + 1 + 1 < (((((w.alloc (.cells #[.slice al h.log.length cl, .int .i64 h.sums.a, .int .i64 h.sums.b, .int .i64 h.sums.c, .int .i64 h.sums.d, .slice ar h.ready.length cr, .slice ad h.done.length cd] 29)).alloc (.cells #[.int .i64 me] 3)).alloc (.cells #[.int .i64 4, .int .i64 dd, .int .i64 hh, .slice ap ps.length cp] 39)).alloc (.cells #[.slice none 0 0, .int .i64 0, .int .i64 0, .int .i64 0, .int .i64 0, .slice none 0 0, .slice none 0 0] 29))).heap.size ∧ w.heap.size ≤ (((((w.alloc (.cells #[.slice al h.log.length cl, .int .i64 h.sums.a, .int .i64 h.sums.b, .int .i64 h.sums.c, .int .i64 h.sums.d, .slice ar h.ready.length cr, .slice ad h.done.length cd] 29)).alloc (.cells #[.int .i64 me] 3)).alloc (.cells #[.int .i64 4, .int .i64 dd, .int .i64 hh, .slice ap ps.length cp] 39)).alloc (.cells #[.slice none 0 0, .int .i64 0, .int .i64 0, .int .i64 0, .int .i64 0, .slice none 0 0, .slice none 0 0] 29))).heap.size) := Lib.hid (by simp; omega)
  have HNB : Hid (w.heap.size + 1 + 1 + 1 ≤ v1.heap.size) := Lib.hid (by have := G_v1.out.size; exact Nat.le_of_lt (Array.getElem?_eq_some_iff.1 R6_v1.out).1)
  clear r1 g1 HX0
  (try clear a0 a1 a2 a3 a4 a5 a6)
  (try clear b0)
  (try clear c0 c1 c2 c3)
  (try clear d0 d1 d2 d3 d4 d5 d6)
  obtain ⟨a0, a1, a2, a3, a4, a5, a6⟩ := cells7 R3_v1.out
  obtain ⟨c0, c1, c2, c3⟩ := cells4 R5_v1.out
  obtain ⟨d0, d1, d2, d3, d4, d5, d6⟩ := cells7 R9_v1.out
  go_wp2_with fail
  refine (HIS.out _ G_v1.out (Array.getElem?_eq_some_iff.1 R3_v1.out).1 (cells7 R3_v1.out).2.2.2.2.2.1).mono ?_
  rw [RD.out]
  rintro e v2 ⟨rfl, hbv2⟩
  have R3_v2 := Lib.hid (row_grow R3_v1.out hbv2)
  have R4_v2 := Lib.hid (row_grow R4_v1.out hbv2)
  have R5_v2 := Lib.hid (row_grow R5_v1.out hbv2)
  have R6_v2 := Lib.hid (row_grow R6_v1.out hbv2)
  have R9_v2 := Lib.hid (row_grow R9_v1.out hbv2)
  have G_v2 := Lib.hid (G_v1.out.trans hbv2)
  have HY_v2 := Lib.hid (HY_v1.out.mono (win_grow hbv2 _ _))
  clear hbv2
  (try clear a0 a1 a2 a3 a4 a5 a6)
  (try clear b0)
  (try clear c0 c1 c2 c3)
  (try clear d0 d1 d2 d3 d4 d5 d6)
  obtain ⟨a0, a1, a2, a3, a4, a5, a6⟩ := cells7 R3_v2.out
  obtain ⟨c0, c1, c2, c3⟩ := cells4 R5_v2.out
  obtain ⟨d0, d1, d2, d3, d4, d5, d6⟩ := cells7 R9_v2.out
  go_wp2_with fail
  refine (contains_int (n := dd) v2 ((Of.hs_log (HY_v2.out.mono (win_sub _ _ _))).2.2)).mono ?_
  rw [decide_eq_false HIN2.out]
  rintro e v3 ⟨rfl, hbv3⟩
  have R3_v3 := Lib.hid (row_grow R3_v2.out hbv3)
  have R4_v3 := Lib.hid (row_grow R4_v2.out hbv3)
  have R5_v3 := Lib.hid (row_grow R5_v2.out hbv3)
  have R6_v3 := Lib.hid (row_grow R6_v2.out hbv3)
  have R9_v3 := Lib.hid (row_grow R9_v2.out hbv3)
  have G_v3 := Lib.hid (G_v2.out.trans hbv3)
  have HY_v3 := Lib.hid (HY_v2.out.mono (win_grow hbv3 _ _))
  clear hbv3
  (try clear a0 a1 a2 a3 a4 a5 a6)
  (try clear b0)
  (try clear c0 c1 c2 c3)
  (try clear d0 d1 d2 d3 d4 d5 d6)
  obtain ⟨a0, a1, a2, a3, a4, a5, a6⟩ := cells7 R3_v3.out
  obtain ⟨c0, c1, c2, c3⟩ := cells4 R5_v3.out
  obtain ⟨d0, d1, d2, d3, d4, d5, d6⟩ := cells7 R9_v3.out
  go_wp2_with (first | (refine wpList_store_row rfl (.tmp 6) (.tmp 74) rfl rfl rfl R6_v3.out info_hs rfl rfl ?_))
  intro w7 r7 g7
  obtain ⟨p0, p1, p2, p3, p4, p5, p6⟩ := cells7 r7
  (try clear a0 a1 a2 a3 a4 a5 a6)
  (try clear c0 c1 c2 c3)
  (try clear d0 d1 d2 d3 d4 d5 d6)
  go_wp2
  refine bodyPost_ret (v := .tuple #[.agg #[.slice al2 h.log.length cl2, .int .i64 h.sums.a, .int .i64 h.sums.b, .int .i64 h.sums.c, .int .i64 h.sums.d, .slice ar2 h.ready.length cr2, .slice ad2 h.done.length cd2], .slice none 0 0]) (by simp [results, Try.results50, go_sem, p0, p1, p2, p3, p4, p5, p6]) rfl ?_
  rw [HEH.out, HEM.out]
  refine ⟨_, _, rfl, (HY_v3.out.mono (win_set g7 (.inl HLO.out.1))).mono (win_ovn HLO.out.2), Sl.nil _ _, G_v3.out.grown g7 (fun k hk => by simp at hk; omega)⟩
end Go.Proofs.Ytgbhpghgohggcaa

/- Walks: Hear of the program's houses (5R, 5N, O). -/
namespace Go.Proofs.Ytgbhpghgohggcaa
open Go.RowKit
set_option maxRecDepth 100000 in
set_option maxHeartbeats 2000000 in
theorem phear_abo5R {v vm : Value} {h : Hs} {dd hh me : Int} {ps : List Pt} (w : World) (hv : Of Ty.hs w.cell? v h) (hm : Of Ty.ms w.cell? vm ⟨5, dd, hh, ps⟩) (hk : ∀ x ∈ h.log, KeysOk x.parts) (hkm : KeysOk ps) (hn : (h.log.length + 1) * 40 ≤ 140737488351232)
    (hp : ∀ x ∈ h.log, x.parts.length * 24 ≤ 140737488355328) (hpp : ps.length * 24 ≤ 140737488355328) (hme : I64 me) (hmd : Made h) (rd : readyE h.ready dd = true) :
    Calls Try.prog 50 #[v, .int .i64 me, vm] w fun e w' => ∃ v1 v2, e = .returned (.tuple #[v1, v2]) ∧ Of Ty.hs (ov (fun _ => none) w w') v1 (hearH h ⟨5, dd, hh, ps⟩) ∧ Sl Ty.ms (ov (fun _ => none) w w') v2 (hearM h me ⟨5, dd, hh, ps⟩) ∧ Grow w w' := by
  obtain ⟨al, cl, ar, cr, ad, cd, rfl⟩ := hv.hs_form
  obtain ⟨ap, cp, rfl⟩ : ∃ ap cp, vm = .agg #[.int .i64 5, .int .i64 dd, .int .i64 hh, .slice ap ps.length cp] := hm.ms_form
  have hms : Sl Ty.pt w.cell? (.slice ap ps.length cp) ps ∧ I64 5 ∧ I64 dd ∧ I64 hh := Of.ms_parts hm
  have hlg := (Of.hs_log hv).1
  have HMS := Lib.hid hms
  have HV0 := Lib.hid hv
  have HME := Lib.hid hme
  have HVO := Lib.hid (fun (W : World) (hW : Grow w W) => house_vote (d := dd) W (hv.mono hW.sub) (hms.1.mono hW.sub) hkm)
  have HIS := Lib.hid (fun (W : World) (hW : Grow w W) hb hc => house_is (B := w.heap.size) (d := dd) W hb hc ((Of.hs_log hv).2.1.mono hW.sub))
  have HHS : Hid (∀ (W : World), Grow w W → Calls Try.prog 36 #[.slice al h.log.length cl] W fun e w' => ∃ v', e = .returned v' ∧ Of Ty.hs (ov (fun _ => none) W w') v' h ∧ Grow W w') := Lib.hid (fun (W : World) (hW : Grow w W) => by
    have hx := wlog_house W (hlg.mono hW.sub) hk (by omega) hp
    rw [← (show h = houseR h.log from hmd)] at hx
    exact hx)
  have HNT := Lib.hid (fun (r : Rc) (vr : Value) (W : World) (hW : Grow w W) (hr : Of Ty.rc W.cell? vr r) (hkr : KeysOk r.parts) (hpr : r.parts.length * 24 ≤ 140737488355328) => wlog_note W (hv.mono hW.sub) hr hk hkr (by omega) hp hpr)
  have HKP := Lib.hid (And.intro hkm hpp)
  have HG4 : Hid (Grow w ((((w.alloc (.cells #[.slice al h.log.length cl, .int .i64 h.sums.a, .int .i64 h.sums.b, .int .i64 h.sums.c, .int .i64 h.sums.d, .slice ar h.ready.length cr, .slice ad h.done.length cd] 29)).alloc (.cells #[.int .i64 me] 3)).alloc (.cells #[.int .i64 5, .int .i64 dd, .int .i64 hh, .slice ap ps.length cp] 39)).alloc (.cells #[.slice none 0 0, .int .i64 0, .int .i64 0, .int .i64 0, .int .i64 0, .slice none 0 0, .slice none 0 0] 29))) := Lib.hid (((((Grow.refl w).alloc _).alloc _).alloc _).alloc _)
  have R3_0 : Hid (((((w.alloc (.cells #[.slice al h.log.length cl, .int .i64 h.sums.a, .int .i64 h.sums.b, .int .i64 h.sums.c, .int .i64 h.sums.d, .slice ar h.ready.length cr, .slice ad h.done.length cd] 29)).alloc (.cells #[.int .i64 me] 3)).alloc (.cells #[.int .i64 5, .int .i64 dd, .int .i64 hh, .slice ap ps.length cp] 39)).alloc (.cells #[.slice none 0 0, .int .i64 0, .int .i64 0, .int .i64 0, .int .i64 0, .slice none 0 0, .slice none 0 0] 29)).heap[w.heap.size]? = some (.cells #[.slice al h.log.length cl, .int .i64 h.sums.a, .int .i64 h.sums.b, .int .i64 h.sums.c, .int .i64 h.sums.d, .slice ar h.ready.length cr, .slice ad h.done.length cd] 29 (0, 0))) := Lib.hid (heap_later (heap_later (heap_later (row_new _ _) _) _) _)
  have R4_0 : Hid (((((w.alloc (.cells #[.slice al h.log.length cl, .int .i64 h.sums.a, .int .i64 h.sums.b, .int .i64 h.sums.c, .int .i64 h.sums.d, .slice ar h.ready.length cr, .slice ad h.done.length cd] 29)).alloc (.cells #[.int .i64 me] 3)).alloc (.cells #[.int .i64 5, .int .i64 dd, .int .i64 hh, .slice ap ps.length cp] 39)).alloc (.cells #[.slice none 0 0, .int .i64 0, .int .i64 0, .int .i64 0, .int .i64 0, .slice none 0 0, .slice none 0 0] 29)).heap[w.heap.size + 1]? = some (.cells #[.int .i64 me] 3 (0, 0))) := Lib.hid (heap_later (heap_later (by simpa using row_new (w.alloc (.cells #[.slice al h.log.length cl, .int .i64 h.sums.a, .int .i64 h.sums.b, .int .i64 h.sums.c, .int .i64 h.sums.d, .slice ar h.ready.length cr, .slice ad h.done.length cd] 29)) (.cells #[.int .i64 me] 3)) _) _)
  have R5_0 : Hid (((((w.alloc (.cells #[.slice al h.log.length cl, .int .i64 h.sums.a, .int .i64 h.sums.b, .int .i64 h.sums.c, .int .i64 h.sums.d, .slice ar h.ready.length cr, .slice ad h.done.length cd] 29)).alloc (.cells #[.int .i64 me] 3)).alloc (.cells #[.int .i64 5, .int .i64 dd, .int .i64 hh, .slice ap ps.length cp] 39)).alloc (.cells #[.slice none 0 0, .int .i64 0, .int .i64 0, .int .i64 0, .int .i64 0, .slice none 0 0, .slice none 0 0] 29)).heap[w.heap.size + 1 + 1]? = some (.cells #[.int .i64 5, .int .i64 dd, .int .i64 hh, .slice ap ps.length cp] 39 (0, 0))) := Lib.hid (heap_later (by simpa using row_new ((w.alloc (.cells #[.slice al h.log.length cl, .int .i64 h.sums.a, .int .i64 h.sums.b, .int .i64 h.sums.c, .int .i64 h.sums.d, .slice ar h.ready.length cr, .slice ad h.done.length cd] 29)).alloc (.cells #[.int .i64 me] 3)) (.cells #[.int .i64 5, .int .i64 dd, .int .i64 hh, .slice ap ps.length cp] 39)) _)
  have R6_0 : Hid (((((w.alloc (.cells #[.slice al h.log.length cl, .int .i64 h.sums.a, .int .i64 h.sums.b, .int .i64 h.sums.c, .int .i64 h.sums.d, .slice ar h.ready.length cr, .slice ad h.done.length cd] 29)).alloc (.cells #[.int .i64 me] 3)).alloc (.cells #[.int .i64 5, .int .i64 dd, .int .i64 hh, .slice ap ps.length cp] 39)).alloc (.cells #[.slice none 0 0, .int .i64 0, .int .i64 0, .int .i64 0, .int .i64 0, .slice none 0 0, .slice none 0 0] 29)).heap[w.heap.size + 1 + 1 + 1]? = some (.cells #[.slice none 0 0, .int .i64 0, .int .i64 0, .int .i64 0, .int .i64 0, .slice none 0 0, .slice none 0 0] 29 (0, 0))) := Lib.hid (by simpa using row_new (((w.alloc (.cells #[.slice al h.log.length cl, .int .i64 h.sums.a, .int .i64 h.sums.b, .int .i64 h.sums.c, .int .i64 h.sums.d, .slice ar h.ready.length cr, .slice ad h.done.length cd] 29)).alloc (.cells #[.int .i64 me] 3)).alloc (.cells #[.int .i64 5, .int .i64 dd, .int .i64 hh, .slice ap ps.length cp] 39)) (.cells #[.slice none 0 0, .int .i64 0, .int .i64 0, .int .i64 0, .int .i64 0, .slice none 0 0, .slice none 0 0] 29))
  clear hv hm hk hkm hn hp hpp hme hmd hms hlg
  have HEH : Hid (hearH h ⟨5, dd, hh, ps⟩ = noteE h ⟨3, dd, []⟩) := by
    show hearH h ⟨5, dd, hh, ps⟩ = noteE h ⟨3, dd, []⟩
    unfold hearH
    rw [if_neg (fun e => by cases e), if_neg (fun e => by cases e), if_pos rfl, if_pos rd]
  have HEM : Hid (hearM h me ⟨5, dd, hh, ps⟩ = []) := by
    show hearM h me ⟨5, dd, hh, ps⟩ = []
    unfold hearM
    rw [if_neg (fun e => by cases e), if_neg (fun e => by cases e)]
  have RD := Lib.hid rd
  clear rd
  go_enter Try.func50, Try.ntmps50
  go_wp2_with fail
  refine (HHS.out _ HG4.out).mono ?_
  rintro e v0 ⟨vx, rfl, hX, hb0⟩
  obtain ⟨al2, cl2, ar2, cr2, ad2, cd2, rfl⟩ := hX.hs_form
  have HX0 : Hid (Of Ty.hs (win (((((w.alloc (.cells #[.slice al h.log.length cl, .int .i64 h.sums.a, .int .i64 h.sums.b, .int .i64 h.sums.c, .int .i64 h.sums.d, .slice ar h.ready.length cr, .slice ad h.done.length cd] 29)).alloc (.cells #[.int .i64 me] 3)).alloc (.cells #[.int .i64 5, .int .i64 dd, .int .i64 hh, .slice ap ps.length cp] 39)).alloc (.cells #[.slice none 0 0, .int .i64 0, .int .i64 0, .int .i64 0, .int .i64 0, .slice none 0 0, .slice none 0 0] 29))).heap.size v0.heap.size v0) _ h) := Lib.hid (hX.mono (win_ov _ _))
  have R3_v0 := Lib.hid (row_grow R3_0.out hb0)
  have R4_v0 := Lib.hid (row_grow R4_0.out hb0)
  have R5_v0 := Lib.hid (row_grow R5_0.out hb0)
  have R6_v0 := Lib.hid (row_grow R6_0.out hb0)
  have G_v0 := Lib.hid (HG4.out.trans hb0)
  clear hX hb0
  (try clear a0 a1 a2 a3 a4 a5 a6)
  (try clear b0)
  (try clear c0 c1 c2 c3)
  (try clear d0 d1 d2 d3 d4 d5 d6)
  obtain ⟨a0, a1, a2, a3, a4, a5, a6⟩ := cells7 R3_v0.out
  obtain ⟨c0, c1, c2, c3⟩ := cells4 R5_v0.out
  have R9n := row_new v0 (.cells #[.slice none 0 0, .int .i64 0, .int .i64 0, .int .i64 0, .int .i64 0, .slice none 0 0, .slice none 0 0] 29)
  go_wp2_with (first | (refine wpList_store_row rfl (.tmp 9) (.tmp 13) rfl rfl rfl R9n info_hs rfl rfl ?_))
  clear R9n
  intro v1 r1 g1
  have R9_v1 := Lib.hid r1
  have R3_v1 : Hid (v1.heap[w.heap.size]? = _) := Lib.hid (row_by (heap_later R3_v0.out _) g1 (by have := (Array.getElem?_eq_some_iff.1 R3_v0.out).1; simp; omega))
  have R4_v1 : Hid (v1.heap[w.heap.size + 1]? = _) := Lib.hid (row_by (heap_later R4_v0.out _) g1 (by have := (Array.getElem?_eq_some_iff.1 R4_v0.out).1; simp; omega))
  have R5_v1 : Hid (v1.heap[w.heap.size + 1 + 1]? = _) := Lib.hid (row_by (heap_later R5_v0.out _) g1 (by have := (Array.getElem?_eq_some_iff.1 R5_v0.out).1; simp; omega))
  have R6_v1 : Hid (v1.heap[w.heap.size + 1 + 1 + 1]? = _) := Lib.hid (row_by (heap_later R6_v0.out _) g1 (by have := (Array.getElem?_eq_some_iff.1 R6_v0.out).1; simp; omega))
  have G_v1 := Lib.hid ((G_v0.out.alloc (.cells #[.slice none 0 0, .int .i64 0, .int .i64 0, .int .i64 0, .int .i64 0, .slice none 0 0, .slice none 0 0] 29)).grown g1 (fun k hk => by have := G_v0.out.size; simp at hk; omega))
  have HY_v1 := Lib.hid ((HX0.out.mono (win_grow ((Grow.refl v0).alloc _) _ _)).mono (win_set g1 (.inr (Nat.le_refl _))))
  have HZ9 : Hid (w.heap.size + 1 + 1 + 1 < v0.heap.size) := Lib.hid (Array.getElem?_eq_some_iff.1 R6_v0.out).1
  have HLO : Hid (w.heap.size + 1 + 1 + 1 < (((((w.alloc (.cells #[.slice al h.log.length cl, .int .i64 h.sums.a, .int .i64 h.sums.b, .int .i64 h.sums.c, .int .i64 h.sums.d, .slice ar h.ready.length cr, .slice ad h.done.length cd] 29)).alloc (.cells #[.int .i64 me] 3)).alloc (.cells #[.int .i64 5, .int .i64 dd, .int .i64 hh, .slice ap ps.length cp] 39)).alloc (.cells #[.slice none 0 0, .int .i64 0, .int .i64 0, .int .i64 0, .int .i64 0, .slice none 0 0, .slice none 0 0] 29))).heap.size ∧ w.heap.size ≤ (((((w.alloc (.cells #[.slice al h.log.length cl, .int .i64 h.sums.a, .int .i64 h.sums.b, .int .i64 h.sums.c, .int .i64 h.sums.d, .slice ar h.ready.length cr, .slice ad h.done.length cd] 29)).alloc (.cells #[.int .i64 me] 3)).alloc (.cells #[.int .i64 5, .int .i64 dd, .int .i64 hh, .slice ap ps.length cp] 39)).alloc (.cells #[.slice none 0 0, .int .i64 0, .int .i64 0, .int .i64 0, .int .i64 0, .slice none 0 0, .slice none 0 0] 29))).heap.size) := Lib.hid (by simp; omega)
  have HNB : Hid (w.heap.size + 1 + 1 + 1 ≤ v1.heap.size) := Lib.hid (by have := G_v1.out.size; exact Nat.le_of_lt (Array.getElem?_eq_some_iff.1 R6_v1.out).1)
  clear r1 g1 HX0
  (try clear a0 a1 a2 a3 a4 a5 a6)
  (try clear b0)
  (try clear c0 c1 c2 c3)
  (try clear d0 d1 d2 d3 d4 d5 d6)
  obtain ⟨a0, a1, a2, a3, a4, a5, a6⟩ := cells7 R3_v1.out
  obtain ⟨c0, c1, c2, c3⟩ := cells4 R5_v1.out
  obtain ⟨d0, d1, d2, d3, d4, d5, d6⟩ := cells7 R9_v1.out
  go_wp2_with fail
  refine (HIS.out _ G_v1.out (Array.getElem?_eq_some_iff.1 R3_v1.out).1 (cells7 R3_v1.out).2.2.2.2.2.1).mono ?_
  rw [RD.out]
  rintro e v2 ⟨rfl, hbv2⟩
  have R3_v2 := Lib.hid (row_grow R3_v1.out hbv2)
  have R4_v2 := Lib.hid (row_grow R4_v1.out hbv2)
  have R5_v2 := Lib.hid (row_grow R5_v1.out hbv2)
  have R6_v2 := Lib.hid (row_grow R6_v1.out hbv2)
  have R9_v2 := Lib.hid (row_grow R9_v1.out hbv2)
  have G_v2 := Lib.hid (G_v1.out.trans hbv2)
  have HY_v2 := Lib.hid (HY_v1.out.mono (win_grow hbv2 _ _))
  clear hbv2
  (try clear a0 a1 a2 a3 a4 a5 a6)
  (try clear b0)
  (try clear c0 c1 c2 c3)
  (try clear d0 d1 d2 d3 d4 d5 d6)
  obtain ⟨a0, a1, a2, a3, a4, a5, a6⟩ := cells7 R3_v2.out
  obtain ⟨c0, c1, c2, c3⟩ := cells4 R5_v2.out
  obtain ⟨d0, d1, d2, d3, d4, d5, d6⟩ := cells7 R9_v2.out
  go_wp2_with fail
  refine (HNT.out ⟨3, dd, []⟩ _ _ G_v2.out ⟨_, rfl, _, rfl, (show I64 3 from by unfold I64; decide), HMS.out.2.2.1, Sl.nil _ _⟩ (by intro p hp; simp at hp) (by simp)).mono ?_
  rintro e v3 ⟨vx, rfl, hX, hbv3⟩
  generalize noteE h ⟨3, dd, []⟩ = x at *
  obtain ⟨al3, cl3, ar3, cr3, ad3, cd3, rfl⟩ := hX.hs_form
  have HX1 : Hid (Of Ty.hs (win v2.heap.size v3.heap.size v3) _ x) := Lib.hid (hX.mono (win_ov _ _))
  have HZV : Hid (v0.heap.size < v2.heap.size) := Lib.hid (Array.getElem?_eq_some_iff.1 R9_v2.out).1
  have R3_v3 := Lib.hid (row_grow R3_v2.out hbv3)
  have R4_v3 := Lib.hid (row_grow R4_v2.out hbv3)
  have R5_v3 := Lib.hid (row_grow R5_v2.out hbv3)
  have R6_v3 := Lib.hid (row_grow R6_v2.out hbv3)
  have R9_v3 := Lib.hid (row_grow R9_v2.out hbv3)
  have G_v3 := Lib.hid (G_v2.out.trans hbv3)
  clear hX hbv3
  (try clear a0 a1 a2 a3 a4 a5 a6)
  (try clear b0)
  (try clear c0 c1 c2 c3)
  (try clear d0 d1 d2 d3 d4 d5 d6)
  obtain ⟨a0, a1, a2, a3, a4, a5, a6⟩ := cells7 R3_v3.out
  obtain ⟨c0, c1, c2, c3⟩ := cells4 R5_v3.out
  obtain ⟨d0, d1, d2, d3, d4, d5, d6⟩ := cells7 R9_v3.out
  go_wp2_with (first | (refine wpList_store_row rfl (.tmp 9) (.tmp 73) rfl rfl rfl R9_v3.out info_hs rfl rfl ?_))
  intro v4 r2 g2
  have R9_v4 := Lib.hid r2
  have R3_v4 : Hid (v4.heap[w.heap.size]? = _) := Lib.hid (row_by R3_v3.out g2 (by have := HZ9.out; simp; omega))
  have R4_v4 : Hid (v4.heap[w.heap.size + 1]? = _) := Lib.hid (row_by R4_v3.out g2 (by have := HZ9.out; simp; omega))
  have R5_v4 : Hid (v4.heap[w.heap.size + 1 + 1]? = _) := Lib.hid (row_by R5_v3.out g2 (by have := HZ9.out; simp; omega))
  have R6_v4 : Hid (v4.heap[w.heap.size + 1 + 1 + 1]? = _) := Lib.hid (row_by R6_v3.out g2 (by have := HZ9.out; simp; omega))
  have G_v4 := Lib.hid (G_v3.out.grown g2 (fun k hk => by have := HZ9.out; simp at hk; omega))
  have HY_v4 := Lib.hid (HX1.out.mono (win_set g2 (.inl HZV.out)))
  have HLN : Hid (w.heap.size + 1 + 1 + 1 < v2.heap.size ∧ w.heap.size ≤ v2.heap.size) := Lib.hid (by have := HZ9.out; have := HZV.out; omega)
  clear r2 g2 HX1
  (try clear a0 a1 a2 a3 a4 a5 a6)
  (try clear b0)
  (try clear c0 c1 c2 c3)
  (try clear d0 d1 d2 d3 d4 d5 d6)
  obtain ⟨a0, a1, a2, a3, a4, a5, a6⟩ := cells7 R3_v4.out
  obtain ⟨c0, c1, c2, c3⟩ := cells4 R5_v4.out
  obtain ⟨d0, d1, d2, d3, d4, d5, d6⟩ := cells7 R9_v4.out
  go_wp2_with (first | (refine wpList_store_row rfl (.tmp 6) (.tmp 74) rfl rfl rfl R6_v4.out info_hs rfl rfl ?_))
  intro w7 r7 g7
  obtain ⟨p0, p1, p2, p3, p4, p5, p6⟩ := cells7 r7
  (try clear a0 a1 a2 a3 a4 a5 a6)
  (try clear c0 c1 c2 c3)
  (try clear d0 d1 d2 d3 d4 d5 d6)
  go_wp2
  refine bodyPost_ret (v := .tuple #[.agg #[.slice al3 x.log.length cl3, .int .i64 x.sums.a, .int .i64 x.sums.b, .int .i64 x.sums.c, .int .i64 x.sums.d, .slice ar3 x.ready.length cr3, .slice ad3 x.done.length cd3], .slice none 0 0]) (by simp [results, Try.results50, go_sem, p0, p1, p2, p3, p4, p5, p6]) rfl ?_
  rw [HEH.out, HEM.out]
  refine ⟨_, _, rfl, (HY_v4.out.mono (win_set g7 (.inl HLN.out.1))).mono (win_ovn HLN.out.2), Sl.nil _ _, G_v4.out.grown g7 (fun k hk => by simp at hk; omega)⟩
set_option maxRecDepth 100000 in
set_option maxHeartbeats 2000000 in
theorem phear_abo5N {v vm : Value} {h : Hs} {dd hh me : Int} {ps : List Pt} (w : World) (hv : Of Ty.hs w.cell? v h) (hm : Of Ty.ms w.cell? vm ⟨5, dd, hh, ps⟩) (hk : ∀ x ∈ h.log, KeysOk x.parts) (hkm : KeysOk ps) (hn : (h.log.length + 1) * 40 ≤ 140737488351232)
    (hp : ∀ x ∈ h.log, x.parts.length * 24 ≤ 140737488355328) (hpp : ps.length * 24 ≤ 140737488355328) (hme : I64 me) (hmd : Made h) (rd : readyE h.ready dd = false) :
    Calls Try.prog 50 #[v, .int .i64 me, vm] w fun e w' => ∃ v1 v2, e = .returned (.tuple #[v1, v2]) ∧ Of Ty.hs (ov (fun _ => none) w w') v1 (hearH h ⟨5, dd, hh, ps⟩) ∧ Sl Ty.ms (ov (fun _ => none) w w') v2 (hearM h me ⟨5, dd, hh, ps⟩) ∧ Grow w w' := by
  obtain ⟨al, cl, ar, cr, ad, cd, rfl⟩ := hv.hs_form
  obtain ⟨ap, cp, rfl⟩ : ∃ ap cp, vm = .agg #[.int .i64 5, .int .i64 dd, .int .i64 hh, .slice ap ps.length cp] := hm.ms_form
  have hms : Sl Ty.pt w.cell? (.slice ap ps.length cp) ps ∧ I64 5 ∧ I64 dd ∧ I64 hh := Of.ms_parts hm
  have hlg := (Of.hs_log hv).1
  have HMS := Lib.hid hms
  have HV0 := Lib.hid hv
  have HME := Lib.hid hme
  have HVO := Lib.hid (fun (W : World) (hW : Grow w W) => house_vote (d := dd) W (hv.mono hW.sub) (hms.1.mono hW.sub) hkm)
  have HIS := Lib.hid (fun (W : World) (hW : Grow w W) hb hc => house_is (B := w.heap.size) (d := dd) W hb hc ((Of.hs_log hv).2.1.mono hW.sub))
  have HHS : Hid (∀ (W : World), Grow w W → Calls Try.prog 36 #[.slice al h.log.length cl] W fun e w' => ∃ v', e = .returned v' ∧ Of Ty.hs (ov (fun _ => none) W w') v' h ∧ Grow W w') := Lib.hid (fun (W : World) (hW : Grow w W) => by
    have hx := wlog_house W (hlg.mono hW.sub) hk (by omega) hp
    rw [← (show h = houseR h.log from hmd)] at hx
    exact hx)
  have HNT := Lib.hid (fun (r : Rc) (vr : Value) (W : World) (hW : Grow w W) (hr : Of Ty.rc W.cell? vr r) (hkr : KeysOk r.parts) (hpr : r.parts.length * 24 ≤ 140737488355328) => wlog_note W (hv.mono hW.sub) hr hk hkr (by omega) hp hpr)
  have HKP := Lib.hid (And.intro hkm hpp)
  have HG4 : Hid (Grow w ((((w.alloc (.cells #[.slice al h.log.length cl, .int .i64 h.sums.a, .int .i64 h.sums.b, .int .i64 h.sums.c, .int .i64 h.sums.d, .slice ar h.ready.length cr, .slice ad h.done.length cd] 29)).alloc (.cells #[.int .i64 me] 3)).alloc (.cells #[.int .i64 5, .int .i64 dd, .int .i64 hh, .slice ap ps.length cp] 39)).alloc (.cells #[.slice none 0 0, .int .i64 0, .int .i64 0, .int .i64 0, .int .i64 0, .slice none 0 0, .slice none 0 0] 29))) := Lib.hid (((((Grow.refl w).alloc _).alloc _).alloc _).alloc _)
  have R3_0 : Hid (((((w.alloc (.cells #[.slice al h.log.length cl, .int .i64 h.sums.a, .int .i64 h.sums.b, .int .i64 h.sums.c, .int .i64 h.sums.d, .slice ar h.ready.length cr, .slice ad h.done.length cd] 29)).alloc (.cells #[.int .i64 me] 3)).alloc (.cells #[.int .i64 5, .int .i64 dd, .int .i64 hh, .slice ap ps.length cp] 39)).alloc (.cells #[.slice none 0 0, .int .i64 0, .int .i64 0, .int .i64 0, .int .i64 0, .slice none 0 0, .slice none 0 0] 29)).heap[w.heap.size]? = some (.cells #[.slice al h.log.length cl, .int .i64 h.sums.a, .int .i64 h.sums.b, .int .i64 h.sums.c, .int .i64 h.sums.d, .slice ar h.ready.length cr, .slice ad h.done.length cd] 29 (0, 0))) := Lib.hid (heap_later (heap_later (heap_later (row_new _ _) _) _) _)
  have R4_0 : Hid (((((w.alloc (.cells #[.slice al h.log.length cl, .int .i64 h.sums.a, .int .i64 h.sums.b, .int .i64 h.sums.c, .int .i64 h.sums.d, .slice ar h.ready.length cr, .slice ad h.done.length cd] 29)).alloc (.cells #[.int .i64 me] 3)).alloc (.cells #[.int .i64 5, .int .i64 dd, .int .i64 hh, .slice ap ps.length cp] 39)).alloc (.cells #[.slice none 0 0, .int .i64 0, .int .i64 0, .int .i64 0, .int .i64 0, .slice none 0 0, .slice none 0 0] 29)).heap[w.heap.size + 1]? = some (.cells #[.int .i64 me] 3 (0, 0))) := Lib.hid (heap_later (heap_later (by simpa using row_new (w.alloc (.cells #[.slice al h.log.length cl, .int .i64 h.sums.a, .int .i64 h.sums.b, .int .i64 h.sums.c, .int .i64 h.sums.d, .slice ar h.ready.length cr, .slice ad h.done.length cd] 29)) (.cells #[.int .i64 me] 3)) _) _)
  have R5_0 : Hid (((((w.alloc (.cells #[.slice al h.log.length cl, .int .i64 h.sums.a, .int .i64 h.sums.b, .int .i64 h.sums.c, .int .i64 h.sums.d, .slice ar h.ready.length cr, .slice ad h.done.length cd] 29)).alloc (.cells #[.int .i64 me] 3)).alloc (.cells #[.int .i64 5, .int .i64 dd, .int .i64 hh, .slice ap ps.length cp] 39)).alloc (.cells #[.slice none 0 0, .int .i64 0, .int .i64 0, .int .i64 0, .int .i64 0, .slice none 0 0, .slice none 0 0] 29)).heap[w.heap.size + 1 + 1]? = some (.cells #[.int .i64 5, .int .i64 dd, .int .i64 hh, .slice ap ps.length cp] 39 (0, 0))) := Lib.hid (heap_later (by simpa using row_new ((w.alloc (.cells #[.slice al h.log.length cl, .int .i64 h.sums.a, .int .i64 h.sums.b, .int .i64 h.sums.c, .int .i64 h.sums.d, .slice ar h.ready.length cr, .slice ad h.done.length cd] 29)).alloc (.cells #[.int .i64 me] 3)) (.cells #[.int .i64 5, .int .i64 dd, .int .i64 hh, .slice ap ps.length cp] 39)) _)
  have R6_0 : Hid (((((w.alloc (.cells #[.slice al h.log.length cl, .int .i64 h.sums.a, .int .i64 h.sums.b, .int .i64 h.sums.c, .int .i64 h.sums.d, .slice ar h.ready.length cr, .slice ad h.done.length cd] 29)).alloc (.cells #[.int .i64 me] 3)).alloc (.cells #[.int .i64 5, .int .i64 dd, .int .i64 hh, .slice ap ps.length cp] 39)).alloc (.cells #[.slice none 0 0, .int .i64 0, .int .i64 0, .int .i64 0, .int .i64 0, .slice none 0 0, .slice none 0 0] 29)).heap[w.heap.size + 1 + 1 + 1]? = some (.cells #[.slice none 0 0, .int .i64 0, .int .i64 0, .int .i64 0, .int .i64 0, .slice none 0 0, .slice none 0 0] 29 (0, 0))) := Lib.hid (by simpa using row_new (((w.alloc (.cells #[.slice al h.log.length cl, .int .i64 h.sums.a, .int .i64 h.sums.b, .int .i64 h.sums.c, .int .i64 h.sums.d, .slice ar h.ready.length cr, .slice ad h.done.length cd] 29)).alloc (.cells #[.int .i64 me] 3)).alloc (.cells #[.int .i64 5, .int .i64 dd, .int .i64 hh, .slice ap ps.length cp] 39)) (.cells #[.slice none 0 0, .int .i64 0, .int .i64 0, .int .i64 0, .int .i64 0, .slice none 0 0, .slice none 0 0] 29))
  clear hv hm hk hkm hn hp hpp hme hmd hms hlg
  have HEH : Hid (hearH h ⟨5, dd, hh, ps⟩ = h) := by
    show hearH h ⟨5, dd, hh, ps⟩ = h
    unfold hearH
    rw [if_neg (fun e => by cases e), if_neg (fun e => by cases e), if_pos rfl, if_neg (by rw [show readyE h.ready (Ms.deed ⟨5, dd, hh, ps⟩) = false from rd]; simp)]
  have HEM : Hid (hearM h me ⟨5, dd, hh, ps⟩ = []) := by
    show hearM h me ⟨5, dd, hh, ps⟩ = []
    unfold hearM
    rw [if_neg (fun e => by cases e), if_neg (fun e => by cases e)]
  have RD := Lib.hid rd
  clear rd
  go_enter Try.func50, Try.ntmps50
  go_wp2_with fail
  refine (HHS.out _ HG4.out).mono ?_
  rintro e v0 ⟨vx, rfl, hX, hb0⟩
  obtain ⟨al2, cl2, ar2, cr2, ad2, cd2, rfl⟩ := hX.hs_form
  have HX0 : Hid (Of Ty.hs (win (((((w.alloc (.cells #[.slice al h.log.length cl, .int .i64 h.sums.a, .int .i64 h.sums.b, .int .i64 h.sums.c, .int .i64 h.sums.d, .slice ar h.ready.length cr, .slice ad h.done.length cd] 29)).alloc (.cells #[.int .i64 me] 3)).alloc (.cells #[.int .i64 5, .int .i64 dd, .int .i64 hh, .slice ap ps.length cp] 39)).alloc (.cells #[.slice none 0 0, .int .i64 0, .int .i64 0, .int .i64 0, .int .i64 0, .slice none 0 0, .slice none 0 0] 29))).heap.size v0.heap.size v0) _ h) := Lib.hid (hX.mono (win_ov _ _))
  have R3_v0 := Lib.hid (row_grow R3_0.out hb0)
  have R4_v0 := Lib.hid (row_grow R4_0.out hb0)
  have R5_v0 := Lib.hid (row_grow R5_0.out hb0)
  have R6_v0 := Lib.hid (row_grow R6_0.out hb0)
  have G_v0 := Lib.hid (HG4.out.trans hb0)
  clear hX hb0
  (try clear a0 a1 a2 a3 a4 a5 a6)
  (try clear b0)
  (try clear c0 c1 c2 c3)
  (try clear d0 d1 d2 d3 d4 d5 d6)
  obtain ⟨a0, a1, a2, a3, a4, a5, a6⟩ := cells7 R3_v0.out
  obtain ⟨c0, c1, c2, c3⟩ := cells4 R5_v0.out
  have R9n := row_new v0 (.cells #[.slice none 0 0, .int .i64 0, .int .i64 0, .int .i64 0, .int .i64 0, .slice none 0 0, .slice none 0 0] 29)
  go_wp2_with (first | (refine wpList_store_row rfl (.tmp 9) (.tmp 13) rfl rfl rfl R9n info_hs rfl rfl ?_))
  clear R9n
  intro v1 r1 g1
  have R9_v1 := Lib.hid r1
  have R3_v1 : Hid (v1.heap[w.heap.size]? = _) := Lib.hid (row_by (heap_later R3_v0.out _) g1 (by have := (Array.getElem?_eq_some_iff.1 R3_v0.out).1; simp; omega))
  have R4_v1 : Hid (v1.heap[w.heap.size + 1]? = _) := Lib.hid (row_by (heap_later R4_v0.out _) g1 (by have := (Array.getElem?_eq_some_iff.1 R4_v0.out).1; simp; omega))
  have R5_v1 : Hid (v1.heap[w.heap.size + 1 + 1]? = _) := Lib.hid (row_by (heap_later R5_v0.out _) g1 (by have := (Array.getElem?_eq_some_iff.1 R5_v0.out).1; simp; omega))
  have R6_v1 : Hid (v1.heap[w.heap.size + 1 + 1 + 1]? = _) := Lib.hid (row_by (heap_later R6_v0.out _) g1 (by have := (Array.getElem?_eq_some_iff.1 R6_v0.out).1; simp; omega))
  have G_v1 := Lib.hid ((G_v0.out.alloc (.cells #[.slice none 0 0, .int .i64 0, .int .i64 0, .int .i64 0, .int .i64 0, .slice none 0 0, .slice none 0 0] 29)).grown g1 (fun k hk => by have := G_v0.out.size; simp at hk; omega))
  have HY_v1 := Lib.hid ((HX0.out.mono (win_grow ((Grow.refl v0).alloc _) _ _)).mono (win_set g1 (.inr (Nat.le_refl _))))
  have HZ9 : Hid (w.heap.size + 1 + 1 + 1 < v0.heap.size) := Lib.hid (Array.getElem?_eq_some_iff.1 R6_v0.out).1
  have HLO : Hid (w.heap.size + 1 + 1 + 1 < (((((w.alloc (.cells #[.slice al h.log.length cl, .int .i64 h.sums.a, .int .i64 h.sums.b, .int .i64 h.sums.c, .int .i64 h.sums.d, .slice ar h.ready.length cr, .slice ad h.done.length cd] 29)).alloc (.cells #[.int .i64 me] 3)).alloc (.cells #[.int .i64 5, .int .i64 dd, .int .i64 hh, .slice ap ps.length cp] 39)).alloc (.cells #[.slice none 0 0, .int .i64 0, .int .i64 0, .int .i64 0, .int .i64 0, .slice none 0 0, .slice none 0 0] 29))).heap.size ∧ w.heap.size ≤ (((((w.alloc (.cells #[.slice al h.log.length cl, .int .i64 h.sums.a, .int .i64 h.sums.b, .int .i64 h.sums.c, .int .i64 h.sums.d, .slice ar h.ready.length cr, .slice ad h.done.length cd] 29)).alloc (.cells #[.int .i64 me] 3)).alloc (.cells #[.int .i64 5, .int .i64 dd, .int .i64 hh, .slice ap ps.length cp] 39)).alloc (.cells #[.slice none 0 0, .int .i64 0, .int .i64 0, .int .i64 0, .int .i64 0, .slice none 0 0, .slice none 0 0] 29))).heap.size) := Lib.hid (by simp; omega)
  have HNB : Hid (w.heap.size + 1 + 1 + 1 ≤ v1.heap.size) := Lib.hid (by have := G_v1.out.size; exact Nat.le_of_lt (Array.getElem?_eq_some_iff.1 R6_v1.out).1)
  clear r1 g1 HX0
  (try clear a0 a1 a2 a3 a4 a5 a6)
  (try clear b0)
  (try clear c0 c1 c2 c3)
  (try clear d0 d1 d2 d3 d4 d5 d6)
  obtain ⟨a0, a1, a2, a3, a4, a5, a6⟩ := cells7 R3_v1.out
  obtain ⟨c0, c1, c2, c3⟩ := cells4 R5_v1.out
  obtain ⟨d0, d1, d2, d3, d4, d5, d6⟩ := cells7 R9_v1.out
  go_wp2_with fail
  refine (HIS.out _ G_v1.out (Array.getElem?_eq_some_iff.1 R3_v1.out).1 (cells7 R3_v1.out).2.2.2.2.2.1).mono ?_
  rw [RD.out]
  rintro e v2 ⟨rfl, hbv2⟩
  have R3_v2 := Lib.hid (row_grow R3_v1.out hbv2)
  have R4_v2 := Lib.hid (row_grow R4_v1.out hbv2)
  have R5_v2 := Lib.hid (row_grow R5_v1.out hbv2)
  have R6_v2 := Lib.hid (row_grow R6_v1.out hbv2)
  have R9_v2 := Lib.hid (row_grow R9_v1.out hbv2)
  have G_v2 := Lib.hid (G_v1.out.trans hbv2)
  have HY_v2 := Lib.hid (HY_v1.out.mono (win_grow hbv2 _ _))
  clear hbv2
  (try clear a0 a1 a2 a3 a4 a5 a6)
  (try clear b0)
  (try clear c0 c1 c2 c3)
  (try clear d0 d1 d2 d3 d4 d5 d6)
  obtain ⟨a0, a1, a2, a3, a4, a5, a6⟩ := cells7 R3_v2.out
  obtain ⟨c0, c1, c2, c3⟩ := cells4 R5_v2.out
  obtain ⟨d0, d1, d2, d3, d4, d5, d6⟩ := cells7 R9_v2.out
  go_wp2_with (first | (refine wpList_store_row rfl (.tmp 6) (.tmp 74) rfl rfl rfl R6_v2.out info_hs rfl rfl ?_))
  intro w7 r7 g7
  obtain ⟨p0, p1, p2, p3, p4, p5, p6⟩ := cells7 r7
  (try clear a0 a1 a2 a3 a4 a5 a6)
  (try clear c0 c1 c2 c3)
  (try clear d0 d1 d2 d3 d4 d5 d6)
  go_wp2
  refine bodyPost_ret (v := .tuple #[.agg #[.slice al2 h.log.length cl2, .int .i64 h.sums.a, .int .i64 h.sums.b, .int .i64 h.sums.c, .int .i64 h.sums.d, .slice ar2 h.ready.length cr2, .slice ad2 h.done.length cd2], .slice none 0 0]) (by simp [results, Try.results50, go_sem, p0, p1, p2, p3, p4, p5, p6]) rfl ?_
  rw [HEH.out, HEM.out]
  refine ⟨_, _, rfl, (HY_v2.out.mono (win_set g7 (.inl HLO.out.1))).mono (win_ovn HLO.out.2), Sl.nil _ _, G_v2.out.grown g7 (fun k hk => by simp at hk; omega)⟩
set_option maxRecDepth 100000 in
set_option maxHeartbeats 2000000 in
theorem phear_oth {v vm : Value} {h : Hs} {kd dd hh me : Int} {ps : List Pt} (w : World) (hv : Of Ty.hs w.cell? v h) (hm : Of Ty.ms w.cell? vm ⟨kd, dd, hh, ps⟩) (hk : ∀ x ∈ h.log, KeysOk x.parts) (hkm : KeysOk ps) (hn : (h.log.length + 1) * 40 ≤ 140737488351232)
    (hp : ∀ x ∈ h.log, x.parts.length * 24 ≤ 140737488355328) (hpp : ps.length * 24 ≤ 140737488355328) (hme : I64 me) (hmd : Made h) (n1 : ¬ kd = 1) (n4 : ¬ kd = 4) (n5 : ¬ kd = 5) :
    Calls Try.prog 50 #[v, .int .i64 me, vm] w fun e w' => ∃ v1 v2, e = .returned (.tuple #[v1, v2]) ∧ Of Ty.hs (ov (fun _ => none) w w') v1 (hearH h ⟨kd, dd, hh, ps⟩) ∧ Sl Ty.ms (ov (fun _ => none) w w') v2 (hearM h me ⟨kd, dd, hh, ps⟩) ∧ Grow w w' := by
  obtain ⟨al, cl, ar, cr, ad, cd, rfl⟩ := hv.hs_form
  obtain ⟨ap, cp, rfl⟩ : ∃ ap cp, vm = .agg #[.int .i64 kd, .int .i64 dd, .int .i64 hh, .slice ap ps.length cp] := hm.ms_form
  have hms : Sl Ty.pt w.cell? (.slice ap ps.length cp) ps ∧ I64 kd ∧ I64 dd ∧ I64 hh := Of.ms_parts hm
  have hlg := (Of.hs_log hv).1
  have HMS := Lib.hid hms
  have HV0 := Lib.hid hv
  have HME := Lib.hid hme
  have HVO := Lib.hid (fun (W : World) (hW : Grow w W) => house_vote (d := dd) W (hv.mono hW.sub) (hms.1.mono hW.sub) hkm)
  have HIS := Lib.hid (fun (W : World) (hW : Grow w W) hb hc => house_is (B := w.heap.size) (d := dd) W hb hc ((Of.hs_log hv).2.1.mono hW.sub))
  have HHS : Hid (∀ (W : World), Grow w W → Calls Try.prog 36 #[.slice al h.log.length cl] W fun e w' => ∃ v', e = .returned v' ∧ Of Ty.hs (ov (fun _ => none) W w') v' h ∧ Grow W w') := Lib.hid (fun (W : World) (hW : Grow w W) => by
    have hx := wlog_house W (hlg.mono hW.sub) hk (by omega) hp
    rw [← (show h = houseR h.log from hmd)] at hx
    exact hx)
  have HNT := Lib.hid (fun (r : Rc) (vr : Value) (W : World) (hW : Grow w W) (hr : Of Ty.rc W.cell? vr r) (hkr : KeysOk r.parts) (hpr : r.parts.length * 24 ≤ 140737488355328) => wlog_note W (hv.mono hW.sub) hr hk hkr (by omega) hp hpr)
  have HKP := Lib.hid (And.intro hkm hpp)
  have HG4 : Hid (Grow w ((((w.alloc (.cells #[.slice al h.log.length cl, .int .i64 h.sums.a, .int .i64 h.sums.b, .int .i64 h.sums.c, .int .i64 h.sums.d, .slice ar h.ready.length cr, .slice ad h.done.length cd] 29)).alloc (.cells #[.int .i64 me] 3)).alloc (.cells #[.int .i64 kd, .int .i64 dd, .int .i64 hh, .slice ap ps.length cp] 39)).alloc (.cells #[.slice none 0 0, .int .i64 0, .int .i64 0, .int .i64 0, .int .i64 0, .slice none 0 0, .slice none 0 0] 29))) := Lib.hid (((((Grow.refl w).alloc _).alloc _).alloc _).alloc _)
  have R3_0 : Hid (((((w.alloc (.cells #[.slice al h.log.length cl, .int .i64 h.sums.a, .int .i64 h.sums.b, .int .i64 h.sums.c, .int .i64 h.sums.d, .slice ar h.ready.length cr, .slice ad h.done.length cd] 29)).alloc (.cells #[.int .i64 me] 3)).alloc (.cells #[.int .i64 kd, .int .i64 dd, .int .i64 hh, .slice ap ps.length cp] 39)).alloc (.cells #[.slice none 0 0, .int .i64 0, .int .i64 0, .int .i64 0, .int .i64 0, .slice none 0 0, .slice none 0 0] 29)).heap[w.heap.size]? = some (.cells #[.slice al h.log.length cl, .int .i64 h.sums.a, .int .i64 h.sums.b, .int .i64 h.sums.c, .int .i64 h.sums.d, .slice ar h.ready.length cr, .slice ad h.done.length cd] 29 (0, 0))) := Lib.hid (heap_later (heap_later (heap_later (row_new _ _) _) _) _)
  have R4_0 : Hid (((((w.alloc (.cells #[.slice al h.log.length cl, .int .i64 h.sums.a, .int .i64 h.sums.b, .int .i64 h.sums.c, .int .i64 h.sums.d, .slice ar h.ready.length cr, .slice ad h.done.length cd] 29)).alloc (.cells #[.int .i64 me] 3)).alloc (.cells #[.int .i64 kd, .int .i64 dd, .int .i64 hh, .slice ap ps.length cp] 39)).alloc (.cells #[.slice none 0 0, .int .i64 0, .int .i64 0, .int .i64 0, .int .i64 0, .slice none 0 0, .slice none 0 0] 29)).heap[w.heap.size + 1]? = some (.cells #[.int .i64 me] 3 (0, 0))) := Lib.hid (heap_later (heap_later (by simpa using row_new (w.alloc (.cells #[.slice al h.log.length cl, .int .i64 h.sums.a, .int .i64 h.sums.b, .int .i64 h.sums.c, .int .i64 h.sums.d, .slice ar h.ready.length cr, .slice ad h.done.length cd] 29)) (.cells #[.int .i64 me] 3)) _) _)
  have R5_0 : Hid (((((w.alloc (.cells #[.slice al h.log.length cl, .int .i64 h.sums.a, .int .i64 h.sums.b, .int .i64 h.sums.c, .int .i64 h.sums.d, .slice ar h.ready.length cr, .slice ad h.done.length cd] 29)).alloc (.cells #[.int .i64 me] 3)).alloc (.cells #[.int .i64 kd, .int .i64 dd, .int .i64 hh, .slice ap ps.length cp] 39)).alloc (.cells #[.slice none 0 0, .int .i64 0, .int .i64 0, .int .i64 0, .int .i64 0, .slice none 0 0, .slice none 0 0] 29)).heap[w.heap.size + 1 + 1]? = some (.cells #[.int .i64 kd, .int .i64 dd, .int .i64 hh, .slice ap ps.length cp] 39 (0, 0))) := Lib.hid (heap_later (by simpa using row_new ((w.alloc (.cells #[.slice al h.log.length cl, .int .i64 h.sums.a, .int .i64 h.sums.b, .int .i64 h.sums.c, .int .i64 h.sums.d, .slice ar h.ready.length cr, .slice ad h.done.length cd] 29)).alloc (.cells #[.int .i64 me] 3)) (.cells #[.int .i64 kd, .int .i64 dd, .int .i64 hh, .slice ap ps.length cp] 39)) _)
  have R6_0 : Hid (((((w.alloc (.cells #[.slice al h.log.length cl, .int .i64 h.sums.a, .int .i64 h.sums.b, .int .i64 h.sums.c, .int .i64 h.sums.d, .slice ar h.ready.length cr, .slice ad h.done.length cd] 29)).alloc (.cells #[.int .i64 me] 3)).alloc (.cells #[.int .i64 kd, .int .i64 dd, .int .i64 hh, .slice ap ps.length cp] 39)).alloc (.cells #[.slice none 0 0, .int .i64 0, .int .i64 0, .int .i64 0, .int .i64 0, .slice none 0 0, .slice none 0 0] 29)).heap[w.heap.size + 1 + 1 + 1]? = some (.cells #[.slice none 0 0, .int .i64 0, .int .i64 0, .int .i64 0, .int .i64 0, .slice none 0 0, .slice none 0 0] 29 (0, 0))) := Lib.hid (by simpa using row_new (((w.alloc (.cells #[.slice al h.log.length cl, .int .i64 h.sums.a, .int .i64 h.sums.b, .int .i64 h.sums.c, .int .i64 h.sums.d, .slice ar h.ready.length cr, .slice ad h.done.length cd] 29)).alloc (.cells #[.int .i64 me] 3)).alloc (.cells #[.int .i64 kd, .int .i64 dd, .int .i64 hh, .slice ap ps.length cp] 39)) (.cells #[.slice none 0 0, .int .i64 0, .int .i64 0, .int .i64 0, .int .i64 0, .slice none 0 0, .slice none 0 0] 29))
  clear hv hm hk hkm hn hp hpp hme hmd hms hlg
  have HEH : Hid (hearH h ⟨kd, dd, hh, ps⟩ = h) := by
    show hearH h ⟨kd, dd, hh, ps⟩ = h
    unfold hearH
    rw [if_neg n1, if_neg n4, if_neg n5]
  have HEM : Hid (hearM h me ⟨kd, dd, hh, ps⟩ = []) := by
    show hearM h me ⟨kd, dd, hh, ps⟩ = []
    unfold hearM
    rw [if_neg n1, if_neg n4]
  have b1 : (kd == 1) = false := by simpa using n1
  have b4 : (kd == 4) = false := by simpa using n4
  have b5 : (kd == 5) = false := by simpa using n5
  clear n1 n4 n5
  go_enter Try.func50, Try.ntmps50
  go_wp2_with fail
  refine (HHS.out _ HG4.out).mono ?_
  rintro e v0 ⟨vx, rfl, hX, hb0⟩
  obtain ⟨al2, cl2, ar2, cr2, ad2, cd2, rfl⟩ := hX.hs_form
  have HX0 : Hid (Of Ty.hs (win (((((w.alloc (.cells #[.slice al h.log.length cl, .int .i64 h.sums.a, .int .i64 h.sums.b, .int .i64 h.sums.c, .int .i64 h.sums.d, .slice ar h.ready.length cr, .slice ad h.done.length cd] 29)).alloc (.cells #[.int .i64 me] 3)).alloc (.cells #[.int .i64 kd, .int .i64 dd, .int .i64 hh, .slice ap ps.length cp] 39)).alloc (.cells #[.slice none 0 0, .int .i64 0, .int .i64 0, .int .i64 0, .int .i64 0, .slice none 0 0, .slice none 0 0] 29))).heap.size v0.heap.size v0) _ h) := Lib.hid (hX.mono (win_ov _ _))
  have R3_v0 := Lib.hid (row_grow R3_0.out hb0)
  have R4_v0 := Lib.hid (row_grow R4_0.out hb0)
  have R5_v0 := Lib.hid (row_grow R5_0.out hb0)
  have R6_v0 := Lib.hid (row_grow R6_0.out hb0)
  have G_v0 := Lib.hid (HG4.out.trans hb0)
  clear hX hb0
  (try clear a0 a1 a2 a3 a4 a5 a6)
  (try clear b0)
  (try clear c0 c1 c2 c3)
  (try clear d0 d1 d2 d3 d4 d5 d6)
  obtain ⟨a0, a1, a2, a3, a4, a5, a6⟩ := cells7 R3_v0.out
  obtain ⟨c0, c1, c2, c3⟩ := cells4 R5_v0.out
  have R9n := row_new v0 (.cells #[.slice none 0 0, .int .i64 0, .int .i64 0, .int .i64 0, .int .i64 0, .slice none 0 0, .slice none 0 0] 29)
  go_wp2_with (first | (refine wpList_store_row rfl (.tmp 9) (.tmp 13) rfl rfl rfl R9n info_hs rfl rfl ?_))
  clear R9n
  intro v1 r1 g1
  have R9_v1 := Lib.hid r1
  have R3_v1 : Hid (v1.heap[w.heap.size]? = _) := Lib.hid (row_by (heap_later R3_v0.out _) g1 (by have := (Array.getElem?_eq_some_iff.1 R3_v0.out).1; simp; omega))
  have R4_v1 : Hid (v1.heap[w.heap.size + 1]? = _) := Lib.hid (row_by (heap_later R4_v0.out _) g1 (by have := (Array.getElem?_eq_some_iff.1 R4_v0.out).1; simp; omega))
  have R5_v1 : Hid (v1.heap[w.heap.size + 1 + 1]? = _) := Lib.hid (row_by (heap_later R5_v0.out _) g1 (by have := (Array.getElem?_eq_some_iff.1 R5_v0.out).1; simp; omega))
  have R6_v1 : Hid (v1.heap[w.heap.size + 1 + 1 + 1]? = _) := Lib.hid (row_by (heap_later R6_v0.out _) g1 (by have := (Array.getElem?_eq_some_iff.1 R6_v0.out).1; simp; omega))
  have G_v1 := Lib.hid ((G_v0.out.alloc (.cells #[.slice none 0 0, .int .i64 0, .int .i64 0, .int .i64 0, .int .i64 0, .slice none 0 0, .slice none 0 0] 29)).grown g1 (fun k hk => by have := G_v0.out.size; simp at hk; omega))
  have HY_v1 := Lib.hid ((HX0.out.mono (win_grow ((Grow.refl v0).alloc _) _ _)).mono (win_set g1 (.inr (Nat.le_refl _))))
  have HZ9 : Hid (w.heap.size + 1 + 1 + 1 < v0.heap.size) := Lib.hid (Array.getElem?_eq_some_iff.1 R6_v0.out).1
  have HLO : Hid (w.heap.size + 1 + 1 + 1 < (((((w.alloc (.cells #[.slice al h.log.length cl, .int .i64 h.sums.a, .int .i64 h.sums.b, .int .i64 h.sums.c, .int .i64 h.sums.d, .slice ar h.ready.length cr, .slice ad h.done.length cd] 29)).alloc (.cells #[.int .i64 me] 3)).alloc (.cells #[.int .i64 kd, .int .i64 dd, .int .i64 hh, .slice ap ps.length cp] 39)).alloc (.cells #[.slice none 0 0, .int .i64 0, .int .i64 0, .int .i64 0, .int .i64 0, .slice none 0 0, .slice none 0 0] 29))).heap.size ∧ w.heap.size ≤ (((((w.alloc (.cells #[.slice al h.log.length cl, .int .i64 h.sums.a, .int .i64 h.sums.b, .int .i64 h.sums.c, .int .i64 h.sums.d, .slice ar h.ready.length cr, .slice ad h.done.length cd] 29)).alloc (.cells #[.int .i64 me] 3)).alloc (.cells #[.int .i64 kd, .int .i64 dd, .int .i64 hh, .slice ap ps.length cp] 39)).alloc (.cells #[.slice none 0 0, .int .i64 0, .int .i64 0, .int .i64 0, .int .i64 0, .slice none 0 0, .slice none 0 0] 29))).heap.size) := Lib.hid (by simp; omega)
  have HNB : Hid (w.heap.size + 1 + 1 + 1 ≤ v1.heap.size) := Lib.hid (by have := G_v1.out.size; exact Nat.le_of_lt (Array.getElem?_eq_some_iff.1 R6_v1.out).1)
  clear r1 g1 HX0
  (try clear a0 a1 a2 a3 a4 a5 a6)
  (try clear b0)
  (try clear c0 c1 c2 c3)
  (try clear d0 d1 d2 d3 d4 d5 d6)
  obtain ⟨a0, a1, a2, a3, a4, a5, a6⟩ := cells7 R3_v1.out
  obtain ⟨c0, c1, c2, c3⟩ := cells4 R5_v1.out
  obtain ⟨d0, d1, d2, d3, d4, d5, d6⟩ := cells7 R9_v1.out
  go_wp2_with (first | (refine wpList_store_row rfl (.tmp 6) (.tmp 74) rfl rfl rfl R6_v1.out info_hs rfl rfl ?_))
  intro w7 r7 g7
  obtain ⟨p0, p1, p2, p3, p4, p5, p6⟩ := cells7 r7
  (try clear a0 a1 a2 a3 a4 a5 a6)
  (try clear c0 c1 c2 c3)
  (try clear d0 d1 d2 d3 d4 d5 d6)
  go_wp2
  refine bodyPost_ret (v := .tuple #[.agg #[.slice al2 h.log.length cl2, .int .i64 h.sums.a, .int .i64 h.sums.b, .int .i64 h.sums.c, .int .i64 h.sums.d, .slice ar2 h.ready.length cr2, .slice ad2 h.done.length cd2], .slice none 0 0]) (by simp [results, Try.results50, go_sem, p0, p1, p2, p3, p4, p5, p6]) rfl ?_
  rw [HEH.out, HEM.out]
  refine ⟨_, _, rfl, (HY_v1.out.mono (win_set g7 (.inl HLO.out.1))).mono (win_ovn HLO.out.2), Sl.nil _ _, G_v1.out.grown g7 (fun k hk => by simp at hk; omega)⟩
end Go.Proofs.Ytgbhpghgohggcaa

/- Walks: Hear of the program's houses, whatever comes. -/
namespace Go.Proofs.Ytgbhpghgohggcaa
open Go.RowKit
theorem house_hear {v vm : Value} {h : Hs} {m : Ms} {me : Int} (w : World) (hv : Of Ty.hs w.cell? v h) (hm : Of Ty.ms w.cell? vm m) (hk : ∀ x ∈ h.log, KeysOk x.parts) (hkm : KeysOk m.parts) (hn : (h.log.length + 1) * 40 ≤ 140737488351232)
    (hp : ∀ x ∈ h.log, x.parts.length * 24 ≤ 140737488355328) (hpp : m.parts.length * 24 ≤ 140737488355328) (hme : I64 me) (hmd : Made h) :
    Calls Try.prog 50 #[v, .int .i64 me, vm] w fun e w' => ∃ v1 v2, e = .returned (.tuple #[v1, v2]) ∧ Of Ty.hs (ov (fun _ => none) w w') v1 (hearH h m) ∧ Sl Ty.ms (ov (fun _ => none) w w') v2 (hearM h me m) ∧ Grow w w' := by
  obtain ⟨kd, dd, hh, ps⟩ := m
  by_cases h1 : kd = 1
  · subst h1
    by_cases e10 : voteE h dd ps = 10
    · exact phear_prep10 w hv hm hk hkm hn hp hpp hme hmd e10
    by_cases e0 : voteE h dd ps = 0
    · cases rd : readyE h.ready dd with
      | true => exact phear_prepR w hv hm hk hkm hn hp hpp hme hmd e0 rd
      | false => exact phear_prepN w hv hm hk hkm hn hp hpp hme hmd e0 rd
    · exact phear_prepF w hv hm hk hkm hn hp hpp hme hmd e10 e0
  by_cases h4 : kd = 4
  · subst h4
    cases rd : readyE h.ready dd with
    | true => exact phear_com4R w hv hm hk hkm hn hp hpp hme hmd rd (by rw [(note2 hmd rd).2]; simp)
    | false =>
      by_cases hin : dd ∈ h.done
      · exact phear_com4D w hv hm hk hkm hn hp hpp hme hmd rd hin
      · exact phear_com4N w hv hm hk hkm hn hp hpp hme hmd rd hin
  by_cases h5 : kd = 5
  · subst h5
    cases rd : readyE h.ready dd with
    | true => exact phear_abo5R w hv hm hk hkm hn hp hpp hme hmd rd
    | false => exact phear_abo5N w hv hm hk hkm hn hp hpp hme hmd rd
  · exact phear_oth w hv hm hk hkm hn hp hpp hme hmd h1 h4 h5
end Go.Proofs.Ytgbhpghgohggcaa

/- Walks: what chapter 7's laws ask of a log and a message. -/
namespace Go.Proofs.Ytgbhpghgohggcaa
open Go.RowKit
/-- the sums of a house that is at hand -/
theorem field_sums (v0 v5 v6 : Value) (a b c d : Int) (w : World) : (Instr.field 29 (.agg #[v0, .int .i64 a, .int .i64 b, .int .i64 c, .int .i64 d, v5, v6]) 1).run Try.prog w = .ok (.agg #[.int .i64 a, .int .i64 b, .int .i64 c, .int .i64 d]) w := by kernel_rfl
def right7E (l : List Rc) (m : Ms) : Bool := rightLog l && decide (wrongM m = 0) && rightS (houseR l).sums
set_option maxRecDepth 100000 in
set_option maxHeartbeats 1000000 in
theorem law7_right {v vm : Value} {l : List Rc} {m : Ms} (w : World) (hv : Rcs w.cell? v l) (hm : Of Ty.ms w.cell? vm m) :
    Calls Try.prog 49 #[v, vm] w fun e w' => e = .returned (.bool (right7E l m)) ∧ Grow w w' := by
  have HRL := Lib.hid (fun (W : World) (hW : Grow w W) => ref_rightLog W (hv.mono hW.sub))
  have HWR := Lib.hid (fun (W : World) (hW : Grow w W) => ref_wrong W (hm.mono hW.sub))
  have HV := Lib.hid hv
  obtain ⟨ap, cp, rfl⟩ := hm.ms_form
  obtain ⟨al, cl, rfl, -⟩ := hv
  clear hm
  cases hok : rightLog l with
  | false =>
    have HE := Lib.hid (show right7E l m = false by simp [right7E, hok])
    go_enter Try.func49, Try.ntmps49
    go_wp2_with fail
    refine (HRL.out _ ((Grow.refl w).alloc _)).mono ?_
    rw [hok]
    rintro e w1 ⟨rfl, hb1⟩
    go_wp2
    go_ret
    exact ⟨ret_bool HE.out.symm, ((Grow.refl w).alloc _).trans hb1⟩
  | true =>
    by_cases hw : wrongM m = 0
    · have hk := keys_of_right hok
      have hl := hk.2
      have HRH := Lib.hid (fun (W : World) (hW : Grow w W) => ref_house W (HV.out.mono hW.sub) hk.1 (by omega))
      have HE := Lib.hid (show right7E l m = rightS (houseR l).sums by simp [right7E, hok, hw])
      have HOK := Lib.hid hok
      have hb0 : (wrongM m != 0) = false := by simp [hw]
      clear hk hl hok hw
      generalize wrongM m = wm at *
      generalize houseR l = x at *
      go_enter Try.func49, Try.ntmps49
      go_wp2_with fail
      refine (HRL.out _ ((Grow.refl w).alloc _)).mono ?_
      rw [HOK.out]
      rintro e w1 ⟨rfl, hb1⟩
      have R3 := Lib.hid (row_grow (row_new w (.cells #[.int .i64 m.kind, .int .i64 m.deed, .int .i64 m.house, .slice ap m.parts.length cp] 39)) hb1)
      have HB1 := Lib.hid (((Grow.refl w).alloc (.cells #[.int .i64 m.kind, .int .i64 m.deed, .int .i64 m.house, .slice ap m.parts.length cp] 39)).trans hb1)
      have z3 : w.heap.size < w1.heap.size := (Array.getElem?_eq_some_iff.1 R3.out).1
      clear hb1
      obtain ⟨c0, c1, c2, c3⟩ := cells4 R3.out
      go_wp2_with fail
      refine (HWR.out _ HB1.out).mono ?_
      rintro e w2 ⟨rfl, hb2⟩
      have HB2 := Lib.hid (HB1.out.trans hb2)
      clear hb2
      go_wp2_with fail
      refine (HRH.out _ HB2.out).mono ?_
      rintro e w3 ⟨vx, rfl, hX, hb3⟩
      obtain ⟨xl, kl, xr, kr, xd, kd, rfl⟩ := hX.hs_form
      have HB3 := Lib.hid (HB2.out.trans hb3)
      clear hX hb3
      have hfs := fun w => field_sums (.slice xl x.log.length kl) (.slice xr x.ready.length kr) (.slice xd x.done.length kd) x.sums.a x.sums.b x.sums.c x.sums.d w
      go_wp2_with fail
      refine (ref_rightSums _ x.sums).mono ?_
      rintro e w4 ⟨rfl, hb4⟩
      have HB4 : Hid (Grow w w4) := Lib.hid (HB3.out.trans (by first | exact hb4 | exact Grow.trans ((Grow.refl _).alloc _) hb4))
      clear hb4
      go_wp2
      go_ret
      exact ⟨ret_bool HE.out.symm, HB4.out⟩
    · have HE := Lib.hid (show right7E l m = false by simp [right7E, hw])
      have HOK := Lib.hid hok
      have hb0 : (wrongM m != 0) = true := by simp [hw]
      clear hok hw
      generalize wrongM m = wm at *
      go_enter Try.func49, Try.ntmps49
      go_wp2_with fail
      refine (HRL.out _ ((Grow.refl w).alloc _)).mono ?_
      rw [HOK.out]
      rintro e w1 ⟨rfl, hb1⟩
      have R3 := Lib.hid (row_grow (row_new w (.cells #[.int .i64 m.kind, .int .i64 m.deed, .int .i64 m.house, .slice ap m.parts.length cp] 39)) hb1)
      have HB1 := Lib.hid (((Grow.refl w).alloc (.cells #[.int .i64 m.kind, .int .i64 m.deed, .int .i64 m.house, .slice ap m.parts.length cp] 39)).trans hb1)
      have z3 : w.heap.size < w1.heap.size := (Array.getElem?_eq_some_iff.1 R3.out).1
      clear hb1
      obtain ⟨c0, c1, c2, c3⟩ := cells4 R3.out
      go_wp2_with fail
      refine (HWR.out _ HB1.out).mono ?_
      rintro e w2 ⟨rfl, hb2⟩
      have HB2 := Lib.hid (HB1.out.trans hb2)
      clear hb2
      go_wp2
      go_ret
      exact ⟨ret_bool HE.out.symm, HB2.out⟩
end Go.Proofs.Ytgbhpghgohggcaa

/- The closed fact that chapter 7's laws ask first, walked. -/
namespace Go.Proofs.Ytgbhpghgohggcaa
open Go.RowKit
def m70 : Ms := ⟨1, 70, 0, [⟨0, 1, 5⟩]⟩
def c70 : Ms := ⟨4, 70, 0, []⟩
def hh0 : Hs := ⟨[], ⟨0, 0, 0, 0⟩, [], []⟩
def hh1 : Hs := hearH hh0 m70
def hh2 : Hs := hearH hh1 c70
theorem hh1_log : hh1.log = [⟨1, 70, [⟨0, 1, 5⟩]⟩] := by kernel_rfl
theorem made_hh0 : Made hh0 := rfl
theorem hsOf0 (c : CM) : Of Ty.hs c (.agg #[.slice none 0 0, .int .i64 0, .int .i64 0, .int .i64 0, .int .i64 0, .slice none 0 0, .slice none 0 0]) hh0 := ⟨_, rfl, _, _, _, rfl, Sl.nil _ _, zero_ok, zero_ok, zero_ok, zero_ok, Sl.nil _ _, Sl.nil _ _⟩
set_option maxRecDepth 100000 in
set_option maxHeartbeats 1000000 in
theorem alive7 (w : World) : Calls Try.prog 56 #[] w fun e w' => e = .returned (.bool true) ∧ Grow w w' := by
  have i0 : I64 0 := by unfold I64; decide
  have i1 : I64 1 := by unfold I64; decide
  have i4 : I64 4 := by unfold I64; decide
  have i5 : I64 5 := by unfold I64; decide
  have i70 : I64 70 := by unfold I64; decide
  have HP := Lib.hid (pts_one 0 1 5 i0 i1 i5 w)
  have hk1 : KeysOk m70.parts := by intro p hp; simp [m70] at hp; subst hp; decide
  have HHE := Lib.hid (fun (W : World) (hW : Grow (w.alloc (.cells #[.int .i64 0, .int .i64 1, .int .i64 5] 32)) W) => house_hear (me := 0) W (hsOf0 W.cell?) (m := m70) (vm := .agg #[.int .i64 1, .int .i64 70, .int .i64 0, .slice (some ⟨w.heap.size, 0, none⟩) 1 1]) ⟨_, rfl, _, rfl, i1, i70, i0, HP.out _ _ hW⟩ (by intro x hx; simp [hh0] at hx) hk1 (by decide) (by intro x hx; simp [hh0] at hx) (by decide) i0 made_hh0)
  have HCE := Lib.hid (fun (vh : Value) (W : World) (hh : Of Ty.hs W.cell? vh hh1) => house_hear (me := 0) W hh (m := c70) (vm := .agg #[.int .i64 4, .int .i64 70, .int .i64 0, .slice none 0 0]) ⟨_, rfl, _, rfl, i4, i70, i0, Sl.nil _ _⟩ (by rw [hh1_log]; intro x hx; simp at hx; subst hx; exact hk1) (by intro p hp; simp [c70] at hp) (by rw [hh1_log]; decide) (by rw [hh1_log]; intro x hx; simp at hx; subst hx; decide) (by decide) i0 (hear_made made_hh0 _))
  have HTK := Lib.hid (fun (vh : Value) (W : World) (hh : Of Ty.hs W.cell? vh hh1) => house_tick (me := 0) W hh i0 (by rw [show hh1.ready.length = 1 by kernel_rfl]; decide))
  have HVO := Lib.hid (fun (vh : Value) (W : World) (hh : Of Ty.hs W.cell? vh hh2) => house_vote (d := 70) (ps := []) W hh (Sl.nil _ _) (by intro p hp; simp at hp))
  have e1 : hearM hh0 0 m70 = [⟨2, 70, 0, []⟩] := by kernel_rfl
  have e2 : hearM hh1 0 c70 = [⟨6, 70, 0, []⟩] := by kernel_rfl
  have e3 : hh1.ready.length = 1 := by kernel_rfl
  have e4 : hh2.sums.b = 5 := by kernel_rfl
  have e5 : (hTickE hh1 0).length = 1 := by kernel_rfl
  have e6 : voteE hh2 70 [] = 10 := by kernel_rfl
  have E1 := Lib.hid e1
  have E2 := Lib.hid e2
  have E3 := Lib.hid e3
  have E4 := Lib.hid e4
  have E5 := Lib.hid e5
  have E6 := Lib.hid e6
  clear i0 i1 i4 i5 i70 hk1 e1 e2 e3 e4 e5 e6
  change Hid (∀ W, Grow _ W → Calls _ _ _ W fun e w' => ∃ v1 v2, e = .returned (.tuple #[v1, v2]) ∧ Of Ty.hs (ov (fun _ => none) W w') v1 hh1 ∧ Sl Ty.ms (ov (fun _ => none) W w') v2 (hearM hh0 0 m70) ∧ Grow W w') at HHE
  change Hid (∀ vh W, Of Ty.hs W.cell? vh hh1 → Calls _ _ _ W fun e w' => ∃ v1 v2, e = .returned (.tuple #[v1, v2]) ∧ Of Ty.hs (ov (fun _ => none) W w') v1 hh2 ∧ Sl Ty.ms (ov (fun _ => none) W w') v2 (hearM hh1 0 c70) ∧ Grow W w') at HCE
  rw [E1.out] at HHE
  rw [E2.out] at HCE
  rw [E6.out] at HVO
  have HG0 : Hid (Grow w ((w.alloc (.cells #[.int .i64 0, .int .i64 1, .int .i64 5] 32)).alloc (.cells #[.int .i64 1, .int .i64 70, .int .i64 0, .slice (some ⟨w.heap.size, 0, none⟩) 1 1] 39))) := Lib.hid (((Grow.refl w).alloc _).alloc _)
  go_enter Try.func56, Try.ntmps56
  go_wp2_with fail
  refine (HHE.out _ ((Grow.refl _).alloc _)).mono ?_
  rintro e w1 ⟨v1, v2, rfl, hx, ha, hb1⟩
  have HB1 := Lib.hid (HG0.out.trans hb1)
  have HX := Lib.hid (hx.mono (ov_none hb1))
  obtain ⟨xl, xk, xr, xt, xd, xu, rfl⟩ := hx.hs_form
  have ha' := ha.mono (ov_none hb1)
  obtain ⟨aa, ca, rfl, h1, h2, -, hel⟩ := ha'
  obtain ⟨ba, oa, va, rfl, ca0, -⟩ := Mss.at_ hel 0 (by simp)
  rw [E3.out] at HX
  simp only [E3.out, List.length_cons, List.length_nil, Nat.zero_add, Nat.zero_mul, Nat.add_zero, List.getElem_cons_zero] at *
  have CA := Lib.hid ca0
  clear hx ha hb1 hel
  generalize hh1.log.length = n1 at *
  generalize hh1.done.length = n2 at *
  generalize hh1.sums.a = s1 at *
  generalize hh1.sums.b = s2 at *
  generalize hh1.sums.c = s3 at *
  generalize hh1.sums.d = s4 at *
  go_wp2_with fail
  refine (HCE.out _ _ (HX.out.mono ((Grow.refl _).alloc _).sub)).mono ?_
  rintro e w2 ⟨v1, v2, rfl, hy, hb, hb2⟩
  have R2 := Lib.hid (row_grow (row_new w1 (.cells #[.slice xl n1 xk, .int .i64 s1, .int .i64 s2, .int .i64 s3, .int .i64 s4, .slice xr 1 xt, .slice xd n2 xu] 29)) hb2)
  have HB2 := Lib.hid (((Grow.refl w1).alloc (.cells #[.slice xl n1 xk, .int .i64 s1, .int .i64 s2, .int .i64 s3, .int .i64 s4, .slice xr 1 xt, .slice xd n2 xu] 29)).trans hb2)
  have HY := Lib.hid (hy.mono (ov_none hb2))
  obtain ⟨yl, yk, yr, yt, yd, yu, rfl⟩ := hy.hs_form
  have hb' := hb.mono (ov_none hb2)
  obtain ⟨ab, cb, rfl, h3, h4, -, hel⟩ := hb'
  obtain ⟨bb, ob, vb, rfl, cb0, -⟩ := Mss.at_ hel 0 (by simp)
  simp only [E4.out, List.length_cons, List.length_nil, Nat.zero_add, Nat.zero_mul, Nat.add_zero, List.getElem_cons_zero] at *
  clear hy hb hb2 hel
  generalize hh2.log.length = n3 at *
  generalize hh2.done.length = n4 at *
  generalize hh2.ready.length = n5 at *
  generalize hh2.sums.a = t1 at *
  generalize hh2.sums.c = t3 at *
  generalize hh2.sums.d = t4 at *
  have ca1 := HB2.out.sub _ _ CA.out
  have zz : w1.heap.size < w2.heap.size := (Array.getElem?_eq_some_iff.1 R2.out).1
  obtain ⟨d0, d1, d2, d3, d4, d5, d6⟩ := cells7 R2.out
  have za := World.block_lt_of_cell? w2 _ ca1
  have zb := World.block_lt_of_cell? w2 _ cb0
  simp only at za zb
  go_wp2_with fail
  refine (HTK.out _ _ (HX.out.mono (HB2.out.alloc _).sub)).mono ?_
  rintro e w3 ⟨v3, rfl, ht, hb3⟩
  obtain ⟨at3, ct3, rfl⟩ := ht.form
  have R3 := Lib.hid (row_grow (row_new w2 (.cells #[.slice yl n3 yk, .int .i64 t1, .int .i64 5, .int .i64 t3, .int .i64 t4, .slice yr n5 yt, .slice yd n4 yu] 29)) hb3)
  have HB3 := Lib.hid (((Grow.refl w2).alloc (.cells #[.slice yl n3 yk, .int .i64 t1, .int .i64 5, .int .i64 t3, .int .i64 t4, .slice yr n5 yt, .slice yd n4 yu] 29)).trans hb3)
  simp only [E5.out] at *
  clear ht hb3
  obtain ⟨d0, d1, d2, d3, d4, d5, d6⟩ := cells7 R3.out
  have z3 : w2.heap.size < w3.heap.size := (Array.getElem?_eq_some_iff.1 R3.out).1
  go_wp2_with fail
  refine (HVO.out _ _ (HY.out.mono HB3.out.sub)).mono ?_
  rintro e w4 ⟨rfl, hb4⟩
  have HB4 := Lib.hid (((HB1.out.trans HB2.out).trans HB3.out).trans hb4)
  clear hb4
  go_wp2
  go_ret
  exact ⟨rfl, HB4.out⟩
end Go.Proofs.Ytgbhpghgohggcaa

/- The law HouseTwice, walked. -/
namespace Go.Proofs.Ytgbhpghgohggcaa
open Go.RowKit
theorem right7_ok {l : List Rc} {m : Ms} (h : right7E l m = true) : rightLog l = true ∧ wrongM m = 0 := by
  unfold right7E at h
  simp only [Bool.and_eq_true, decide_eq_true_eq] at h
  exact h.1
theorem right7_house {l : List Rc} {m : Ms} (h : right7E l m = true) : HrOk (houseR l) 60 := by
  have h0 := right7_ok h
  have hk := keys_of_right h0.1
  have hlog : (houseR l).log = l := log_house l
  exact ⟨by rw [hlog]; exact hk.1, by rw [hlog]; exact right_small h0.1, by rw [hlog]; exact hk.2, made_house l, house_fine fun r hr => right_deeds h0.1 r hr⟩
set_option maxRecDepth 100000 in
set_option maxHeartbeats 8000000 in
theorem houseTwice_walk {v vm : Value} {l : List Rc} {m : Ms} (w : World) (hv : Rcs w.cell? v l) (_hs : l.length * 40 ≤ 140737488351232) (hm : Of Ty.ms w.cell? vm m) :
    Calls Try.prog 10 #[v, vm] w fun e w' => e = .returned (.bool true) ∧ Grow w w' := by
  have HRT := Lib.hid (fun (W : World) (hW : Grow w W) => law7_right W (hv.mono hW.sub) (hm.mono hW.sub))
  have HV := Lib.hid hv
  have HM := Lib.hid hm
  obtain ⟨ap, cp, rfl⟩ := hm.ms_form
  obtain ⟨al, cl, rfl, -⟩ := hv
  have HAL := Lib.hid (alive7 (w.alloc (.cells #[.int .i64 m.kind, .int .i64 m.deed, .int .i64 m.house, .slice ap m.parts.length cp] 39)))
  clear hm
  cases hok : right7E l m with
  | false =>
    go_enter Try.func10, Try.ntmps10
    go_wp2_with fail
    refine HAL.out.mono ?_
    rintro e w1 ⟨rfl, hb1⟩
    have R3_1 := Lib.hid (row_grow (row_new w (.cells #[.int .i64 m.kind, .int .i64 m.deed, .int .i64 m.house, .slice ap m.parts.length cp] 39)) hb1)
    have HB1 := Lib.hid (((Grow.refl w).alloc (.cells #[.int .i64 m.kind, .int .i64 m.deed, .int .i64 m.house, .slice ap m.parts.length cp] 39)).trans hb1)
    clear hb1
    obtain ⟨c0, c1, c2, c3⟩ := cells4 R3_1.out
    have z3 : w.heap.size < w1.heap.size := (Array.getElem?_eq_some_iff.1 R3_1.out).1
    go_wp2_with fail
    refine (HRT.out _ HB1.out).mono ?_
    rw [hok]
    rintro e w2 ⟨rfl, hb2⟩
    go_wp2
    go_ret
    exact ⟨rfl, HB1.out.trans hb2⟩
  | true =>
    have HOK := Lib.hid hok
    have h0 := right7_ok hok
    have ho := right7_house hok
    have hR := right_m.1 h0.2
    have ho2 := ho.hear hR
    have hpl : m.parts.length ≤ 4 := hR.len'
    have hme : I64 m.house := (Of.ms_parts HM.out).2.2.2
    have hlen := (keys_of_right h0.1).2
    have hkl := (keys_of_right h0.1).1
    have HRH := Lib.hid (fun (W : World) (hW : Grow w W) => ref_house W (HV.out.mono hW.sub) hkl (by omega))
    have htw := twice_law ho.made ho.fine m.house m
    clear hok h0 hlen hkl
    generalize houseR l = h at *
    have HHE := Lib.hid (fun (vh : Value) (W : World) (hW : Grow w W) (hh : Of Ty.hs W.cell? vh h) => house_hear W hh (HM.out.mono hW.sub) ho.keys hR.keys (by have := ho.len; omega) (fun x hx => by have := ho.small x hx; omega) (by omega) hme ho.made)
    have hhe2 := (fun (vh : Value) (W : World) (hW : Grow w W) (hh : Of Ty.hs W.cell? vh (hearH h m)) => house_hear W hh (HM.out.mono hW.sub) ho2.keys hR.keys (by have := ho2.len; omega) (fun x hx => by have := ho2.small x hx; omega) (by omega) hme ho2.made)
    simp only [htw.1] at hhe2
    have HHE2 := Lib.hid hhe2
    have HTM := Lib.hid htw.2
    clear htw hhe2 ho ho2 hR hpl hme
    generalize hearM (hearH h m) m.house m = a2 at *
    generalize hearM h m.house m = a' at *
    generalize hearH h m = h' at *
    by_cases h5 : m.kind = 5
    · have hb5 : (m.kind == 5) = true := by simpa using h5
      clear h5 HTM
      go_enter Try.func10, Try.ntmps10
      go_wp2_with fail
      refine HAL.out.mono ?_
      rintro e w1 ⟨rfl, hb1⟩
      have R3_1 := Lib.hid (row_grow (row_new w (.cells #[.int .i64 m.kind, .int .i64 m.deed, .int .i64 m.house, .slice ap m.parts.length cp] 39)) hb1)
      have HB1 := Lib.hid (((Grow.refl w).alloc (.cells #[.int .i64 m.kind, .int .i64 m.deed, .int .i64 m.house, .slice ap m.parts.length cp] 39)).trans hb1)
      clear hb1
      obtain ⟨c0, c1, c2, c3⟩ := cells4 R3_1.out
      have z3 : w.heap.size < w1.heap.size := (Array.getElem?_eq_some_iff.1 R3_1.out).1
      go_wp2_with fail
      refine (HRT.out _ HB1.out).mono ?_
      rw [HOK.out]
      rintro e w2 ⟨rfl, hb2⟩
      have R3_2 := Lib.hid (row_grow R3_1.out hb2)
      have HBW := Lib.hid (HB1.out.trans hb2)
      clear hb2 c0 c1 c2 c3 z3
      have HS : Hid (∀ W, Grow w2 W → W.cell? ⟨w.heap.size, 0, none⟩ = some (.int .i64 m.kind) ∧ W.cell? ⟨w.heap.size, 1, none⟩ = some (.int .i64 m.deed) ∧ W.cell? ⟨w.heap.size, 2, none⟩ = some (.int .i64 m.house) ∧ W.cell? ⟨w.heap.size, 3, none⟩ = some (.slice ap m.parts.length cp)) := fun W hW => cells4 (row_grow R3_2.out hW)
      go_wp2_with fail
      refine but_start (fun w' => w'.cell? ⟨w.heap.size, 0, none⟩ = some (.int .i64 m.kind) ∧ w'.cell? ⟨w.heap.size, 1, none⟩ = some (.int .i64 m.deed) ∧ w'.cell? ⟨w.heap.size, 2, none⟩ = some (.int .i64 m.house) ∧ w'.cell? ⟨w.heap.size, 3, none⟩ = some (.slice ap m.parts.length cp)) 11 (by kernel_rfl) ?_
      obtain ⟨wd, hWd⟩ : ∃ x : World, x = w2.drew := ⟨_, rfl⟩
      rw [← hWd]
      have GD : Grow w2 wd := by rw [hWd]; exact (Grow.refl _).drew
      have zD : w2.heap.size = wd.heap.size := by rw [hWd]; rfl
      have ZD := Lib.hid zD
      clear hWd zD
      refine but_take (i := 0) (v := ?_) 14 rfl (by kernel_rfl) (by kernel_rfl) (by kernel_rfl) (by kernel_rfl) (by kernel_rfl) (fun _ _ _ h => h) (HS.out _ GD) (Or.inl ⟨by rfl, ?_⟩) ?_
      rotate_left
      · (intro w' hSw; (try dsimp only at hSw); obtain ⟨hs0, hs1, hs2, hs3⟩ := hSw; go_simp <;> with_reducible rfl)
      try simp only [Act.put, List.getElem_toArray, List.getElem_cons_zero, List.setIfInBounds_toArray, List.set_cons_zero, List.set_cons_succ]
      refine but_take (i := 2) (v := ?_) 14 rfl (by kernel_rfl) (by kernel_rfl) (by kernel_rfl) (by kernel_rfl) (by kernel_rfl) (fun _ _ _ h => h) (HS.out _ GD) (Or.inl ⟨by rfl, ?_⟩) ?_
      rotate_left
      · (intro w' hSw; (try dsimp only at hSw); obtain ⟨hs0, hs1, hs2, hs3⟩ := hSw; go_simp <;> with_reducible rfl)
      try simp only [Act.put, List.getElem_toArray, List.getElem_cons_succ, List.getElem_cons_zero, List.setIfInBounds_toArray, List.set_cons_zero, List.set_cons_succ]
      refine but_take (i := 3) (v := ?_) 14 rfl (by kernel_rfl) (by kernel_rfl) (by kernel_rfl) (by kernel_rfl) (by kernel_rfl) (fun _ _ _ h => h) (HS.out _ GD) (Or.inl ⟨by rfl, ?_⟩) ?_
      rotate_left
      · (intro w' hSw; (try dsimp only at hSw); obtain ⟨hs0, hs1, hs2, hs3⟩ := hSw; go_simp <;> with_reducible rfl)
      try simp only [Act.put, List.getElem_toArray, List.getElem_cons_succ, List.getElem_cons_zero, List.setIfInBounds_toArray, List.set_cons_zero, List.set_cons_succ]
      refine but_take (i := 4) (v := ?_) 14 rfl (by kernel_rfl) (by kernel_rfl) (by kernel_rfl) (by kernel_rfl) (by kernel_rfl) (fun _ _ _ h => h) (HS.out _ GD) (Or.inl ⟨by rfl, ?_⟩) ?_
      rotate_left
      · (intro w' hSw; (try dsimp only at hSw); obtain ⟨hs0, hs1, hs2, hs3⟩ := hSw; go_simp <;> with_reducible rfl)
      try simp only [Act.put, List.getElem_toArray, List.getElem_cons_succ, List.getElem_cons_zero, List.setIfInBounds_toArray, List.set_cons_zero, List.set_cons_succ]
      refine but_two (i := 1) (j := 9) (by kernel_rfl) rfl rfl ?_ ?_
      · skip
        intro K HK'
        have HK := Lib.hid HK'
        clear HK'
        skip
        try simp only [List.getElem_toArray, List.getElem_cons_succ, List.getElem_cons_zero]
        go_simp
        go_at_call 29
        refine (HRH.out _ (HBW.out.trans GD)).mono ?_
        rintro e wA ⟨vh, rfl, hH, hbA⟩
        obtain ⟨hl, hk, hr, ht, hd, hu, rfl⟩ := hH.hs_form
        have HH := Lib.hid hH
        have GA := Grow.trans GD hbA
        clear hH
        refine HK.out _ _ ⟨fun _ => HS.out _ GA, ?_⟩
        clear HK K
        try simp only [Act.put, List.getElem_toArray, List.getElem_cons_succ, List.getElem_cons_zero, List.setIfInBounds_toArray, List.set_cons_zero, List.set_cons_succ]
        refine but_two (i := 5) (j := 9) (by kernel_rfl) rfl rfl ?_ ?_
        · skip
          intro K HK'
          have HK := Lib.hid HK'
          clear HK'
          skip
          try simp only [List.getElem_toArray, List.getElem_cons_succ, List.getElem_cons_zero]
          go_simp
          go_at_call 50
          refine (HHE.out _ _ (HBW.out.trans GA) (HH.out.mono (Grow.refl wA).sub)).mono ?_
          rintro e wC ⟨v1, v2, rfl, hx, ha, hbC⟩
          obtain ⟨xl, xk, xr, xt, xd, xu, rfl⟩ := hx.hs_form
          obtain ⟨aa, ca, rfl, -⟩ := id ha
          have HX0 := Lib.hid (hx.mono (win_ov _ _))
          have HA0 := Lib.hid (ha.mono (win_ov _ _))
          have GC := Grow.trans GA hbC
          clear hx ha
          refine HK.out _ _ ⟨fun _ => HS.out _ GC, ?_⟩
          clear HK K
          try simp only [Act.put, List.getElem_toArray, List.getElem_cons_succ, List.getElem_cons_zero, List.setIfInBounds_toArray, List.set_cons_zero, List.set_cons_succ]
          refine but_take (i := 6) (v := ?_) 14 rfl (by kernel_rfl) (by kernel_rfl) (by kernel_rfl) (by kernel_rfl) (by kernel_rfl) (fun _ _ _ h => h) (HS.out _ GC) (Or.inl ⟨by rfl, ?_⟩) ?_
          rotate_left
          · (intro w' hSw; (try dsimp only at hSw); obtain ⟨hs0, hs1, hs2, hs3⟩ := hSw; go_simp <;> with_reducible rfl)
          try simp only [Act.put, List.getElem_toArray, List.getElem_cons_succ, List.getElem_cons_zero, List.setIfInBounds_toArray, List.set_cons_zero, List.set_cons_succ]
          refine but_take (i := 7) (v := ?_) 14 rfl (by kernel_rfl) (by kernel_rfl) (by kernel_rfl) (by kernel_rfl) (by kernel_rfl) (fun _ _ _ h => h) (HS.out _ GC) (Or.inl ⟨by rfl, ?_⟩) ?_
          rotate_left
          · (intro w' hSw; (try dsimp only at hSw); obtain ⟨hs0, hs1, hs2, hs3⟩ := hSw; go_simp <;> with_reducible rfl)
          try simp only [Act.put, List.getElem_toArray, List.getElem_cons_succ, List.getElem_cons_zero, List.setIfInBounds_toArray, List.set_cons_zero, List.set_cons_succ]
          refine but_take (i := 8) (v := ?_) 14 rfl (by kernel_rfl) (by kernel_rfl) (by kernel_rfl) (by kernel_rfl) (by kernel_rfl) (fun _ _ _ h => h) (HS.out _ GC) (Or.inl ⟨by rfl, ?_⟩) ?_
          rotate_left
          · (intro w' hSw; (try dsimp only at hSw); obtain ⟨hs0, hs1, hs2, hs3⟩ := hSw; go_simp <;> with_reducible rfl)
          try simp only [Act.put, List.getElem_toArray, List.getElem_cons_succ, List.getElem_cons_zero, List.setIfInBounds_toArray, List.set_cons_zero, List.set_cons_succ]
          refine but_one (i := 9) (by kernel_rfl) rfl ?_
          intro K HK'
          have HK := Lib.hid HK'
          clear HK'
          skip
          try simp only [List.getElem_toArray, List.getElem_cons_succ, List.getElem_cons_zero]
          go_simp
          have RA := Lib.hid (row_new wC (.cells #[.slice none 0 0, .int .i64 0, .int .i64 0, .int .i64 0, .int .i64 0, .slice none 0 0, .slice none 0 0] 29))
          refine HK.out _ _ ⟨fun _ => HS.out _ (GC.alloc _), ?_⟩
          clear HK K
          try simp only [Act.put, List.getElem_toArray, List.getElem_cons_succ, List.getElem_cons_zero, List.setIfInBounds_toArray, List.set_cons_zero, List.set_cons_succ]
          refine but_one (i := 10) (by kernel_rfl) rfl ?_
          intro K HK'
          have HK := Lib.hid HK'
          clear HK'
          refine wanted_go rfl ?_
          try simp only [List.getElem_toArray, List.getElem_cons_succ, List.getElem_cons_zero]
          refine wp_store_row (.tmp 5) (.tmp 22) rfl rfl rfl RA.out info_hs rfl rfl ?_
          intro w7 r7 g7
          have HXF := Lib.hid (((HX0.out.mono (win_grow ((Grow.refl _).alloc _) _ _)).mono (win_set g7 (.inr (Nat.le_refl _)))).mono (win_sub _ _ _))
          have HAF := Lib.hid (((HA0.out.mono (win_grow ((Grow.refl _).alloc _) _ _)).mono (win_set g7 (.inr (Nat.le_refl _)))).mono (win_sub _ _ _))
          have GF := Lib.hid (Grow.grown (GC.alloc _) g7 (fun k hk => by obtain rfl := Option.some.inj hk; exact GC.size))
          have R7 := Lib.hid r7
          clear r7 g7
          refine HK.out _ _ ⟨fun _ => HS.out _ GF.out, ?_⟩
          clear HK K
          try simp only [Act.put]
          refine but_one (i := 11) (by kernel_rfl) rfl ?_
          intro K HK'
          have HK := Lib.hid HK'
          clear HK'
          skip
          try simp only [List.getElem_toArray, List.getElem_cons_succ, List.getElem_cons_zero]
          go_simp
          refine HK.out _ _ ⟨fun h => absurd rfl h, ?_⟩
          clear HK K
          try simp only [Act.put, List.getElem_toArray, List.getElem_cons_succ, List.getElem_cons_zero, List.setIfInBounds_toArray, List.set_cons_zero, List.set_cons_succ]
          refine but_done (by kernel_rfl) ?_
          have HG7 : Hid (Grow w w7) := Lib.hid (HBW.out.trans GF.out)
          have R3_7 := Lib.hid (row_grow R3_2.out GF.out)
          clear HH
          obtain ⟨c0, c1, c2, c3⟩ := cells4 R3_7.out
          obtain ⟨d0, d1, d2, d3, d4, d5, d6⟩ := cells7 R7.out
          have z3 : w.heap.size < w7.heap.size := (Array.getElem?_eq_some_iff.1 R3_7.out).1
          have z5 : wC.heap.size < w7.heap.size := (Array.getElem?_eq_some_iff.1 R7.out).1
          go_wp2_with fail
          refine (HHE2.out _ _ HG7.out HXF.out).mono ?_
          rintro e w8 ⟨v1, v2, rfl, hy, hb, hb8⟩
          obtain ⟨yl, yk, yr, yt, yd, yu, rfl⟩ := hy.hs_form
          obtain ⟨ab, cb, rfl, -⟩ := id hb
          have HY := Lib.hid (hy.mono (ov_none hb8))
          have HB8 := Lib.hid (hb.mono (ov_none hb8))
          have R3_8 := Lib.hid (row_grow R3_7.out hb8)
          have R5_8 := Lib.hid (row_grow R7.out hb8)
          have HG8 := Lib.hid hb8
          clear hy hb hb8 c0 c1 c2 c3 d0 d1 d2 d3 d4 d5 d6 z3 z5
          obtain ⟨c0, c1, c2, c3⟩ := cells4 R3_8.out
          obtain ⟨d0, d1, d2, d3, d4, d5, d6⟩ := cells7 R5_8.out
          have z3 : w.heap.size < w8.heap.size := (Array.getElem?_eq_some_iff.1 R3_8.out).1
          have z5 : wC.heap.size < w8.heap.size := (Array.getElem?_eq_some_iff.1 R5_8.out).1
          go_wp2_with fail
          refine (ref_sameHouse _ (HXF.out.mono (HG8.out.alloc _).sub) (HY.out.mono ((Grow.refl w8).alloc _).sub)).mono ?_
          rw [decide_eq_true rfl]
          rintro e w9 ⟨rfl, hb9⟩
          have R3_9 := Lib.hid (row_grow (heap_later R3_8.out _) hb9)
          have HG9 := Lib.hid (((Grow.refl w8).alloc (.cells #[.slice yl h'.log.length yk, .int .i64 h'.sums.a, .int .i64 h'.sums.b, .int .i64 h'.sums.c, .int .i64 h'.sums.d, .slice yr h'.ready.length yt, .slice yd h'.done.length yu] 29)).trans hb9)
          clear hb9 c0 c1 c2 c3 z3 d0 d1 d2 d3 d4 d5 d6 z5
          obtain ⟨c0, c1, c2, c3⟩ := cells4 R3_9.out
          have z3 : w.heap.size < w9.heap.size := (Array.getElem?_eq_some_iff.1 R3_9.out).1
          go_wp2
          go_ret
          exact ⟨rfl, (HG7.out.trans HG8.out).trans HG9.out⟩
        · skip
          intro K HK'
          have HK := Lib.hid HK'
          clear HK'
          skip
          try simp only [List.getElem_toArray, List.getElem_cons_succ, List.getElem_cons_zero]
          go_simp
          have RA := Lib.hid (row_new wA (.cells #[.slice none 0 0, .int .i64 0, .int .i64 0, .int .i64 0, .int .i64 0, .slice none 0 0, .slice none 0 0] 29))
          refine HK.out _ _ ⟨fun _ => HS.out _ (GA.alloc _), ?_⟩
          clear HK K
          try simp only [Act.put, List.getElem_toArray, List.getElem_cons_succ, List.getElem_cons_zero, List.setIfInBounds_toArray, List.set_cons_zero, List.set_cons_succ]
          refine but_one (i := 5) (by kernel_rfl) rfl ?_
          intro K HK'
          have HK := Lib.hid HK'
          clear HK'
          skip
          try simp only [List.getElem_toArray, List.getElem_cons_succ, List.getElem_cons_zero]
          go_simp
          go_at_call 50
          refine (HHE.out _ _ (HBW.out.trans (GA.alloc _)) (HH.out.mono ((Grow.refl wA).alloc _).sub)).mono ?_
          rintro e wC ⟨v1, v2, rfl, hx, ha, hbC⟩
          obtain ⟨xl, xk, xr, xt, xd, xu, rfl⟩ := hx.hs_form
          obtain ⟨aa, ca, rfl, -⟩ := id ha
          have HX0 := Lib.hid (hx.mono (win_ov _ _))
          have HA0 := Lib.hid (ha.mono (win_ov _ _))
          have GC := Grow.trans (GA.alloc _) hbC
          have RC := Lib.hid (row_grow RA.out hbC)
          clear hx ha
          refine HK.out _ _ ⟨fun _ => HS.out _ GC, ?_⟩
          clear HK K
          try simp only [Act.put, List.getElem_toArray, List.getElem_cons_succ, List.getElem_cons_zero, List.setIfInBounds_toArray, List.set_cons_zero, List.set_cons_succ]
          refine but_take (i := 6) (v := ?_) 14 rfl (by kernel_rfl) (by kernel_rfl) (by kernel_rfl) (by kernel_rfl) (by kernel_rfl) (fun _ _ _ h => h) (HS.out _ GC) (Or.inl ⟨by rfl, ?_⟩) ?_
          rotate_left
          · (intro w' hSw; (try dsimp only at hSw); obtain ⟨hs0, hs1, hs2, hs3⟩ := hSw; go_simp <;> with_reducible rfl)
          try simp only [Act.put, List.getElem_toArray, List.getElem_cons_succ, List.getElem_cons_zero, List.setIfInBounds_toArray, List.set_cons_zero, List.set_cons_succ]
          refine but_take (i := 7) (v := ?_) 14 rfl (by kernel_rfl) (by kernel_rfl) (by kernel_rfl) (by kernel_rfl) (by kernel_rfl) (fun _ _ _ h => h) (HS.out _ GC) (Or.inl ⟨by rfl, ?_⟩) ?_
          rotate_left
          · (intro w' hSw; (try dsimp only at hSw); obtain ⟨hs0, hs1, hs2, hs3⟩ := hSw; go_simp <;> with_reducible rfl)
          try simp only [Act.put, List.getElem_toArray, List.getElem_cons_succ, List.getElem_cons_zero, List.setIfInBounds_toArray, List.set_cons_zero, List.set_cons_succ]
          refine but_take (i := 8) (v := ?_) 14 rfl (by kernel_rfl) (by kernel_rfl) (by kernel_rfl) (by kernel_rfl) (by kernel_rfl) (fun _ _ _ h => h) (HS.out _ GC) (Or.inl ⟨by rfl, ?_⟩) ?_
          rotate_left
          · (intro w' hSw; (try dsimp only at hSw); obtain ⟨hs0, hs1, hs2, hs3⟩ := hSw; go_simp <;> with_reducible rfl)
          try simp only [Act.put, List.getElem_toArray, List.getElem_cons_succ, List.getElem_cons_zero, List.setIfInBounds_toArray, List.set_cons_zero, List.set_cons_succ]
          refine but_one (i := 10) (by kernel_rfl) rfl ?_
          intro K HK'
          have HK := Lib.hid HK'
          clear HK'
          refine wanted_go rfl ?_
          try simp only [List.getElem_toArray, List.getElem_cons_succ, List.getElem_cons_zero]
          refine wp_store_row (.tmp 5) (.tmp 22) rfl rfl rfl RC.out info_hs rfl rfl ?_
          intro w7 r7 g7
          have HXF := Lib.hid ((HX0.out.mono (win_set g7 (.inl (Array.getElem?_eq_some_iff.1 RA.out).1))).mono (win_sub _ _ _))
          have HAF := Lib.hid ((HA0.out.mono (win_set g7 (.inl (Array.getElem?_eq_some_iff.1 RA.out).1))).mono (win_sub _ _ _))
          have GF := Lib.hid (Grow.grown GC g7 (fun k hk => by obtain rfl := Option.some.inj hk; exact GA.size))
          have R7 := Lib.hid r7
          clear r7 g7
          refine HK.out _ _ ⟨fun _ => HS.out _ GF.out, ?_⟩
          clear HK K
          try simp only [Act.put]
          refine but_one (i := 11) (by kernel_rfl) rfl ?_
          intro K HK'
          have HK := Lib.hid HK'
          clear HK'
          skip
          try simp only [List.getElem_toArray, List.getElem_cons_succ, List.getElem_cons_zero]
          go_simp
          refine HK.out _ _ ⟨fun h => absurd rfl h, ?_⟩
          clear HK K
          try simp only [Act.put, List.getElem_toArray, List.getElem_cons_succ, List.getElem_cons_zero, List.setIfInBounds_toArray, List.set_cons_zero, List.set_cons_succ]
          refine but_done (by kernel_rfl) ?_
          have HG7 : Hid (Grow w w7) := Lib.hid (HBW.out.trans GF.out)
          have R3_7 := Lib.hid (row_grow R3_2.out GF.out)
          clear HH
          obtain ⟨c0, c1, c2, c3⟩ := cells4 R3_7.out
          obtain ⟨d0, d1, d2, d3, d4, d5, d6⟩ := cells7 R7.out
          have z3 : w.heap.size < w7.heap.size := (Array.getElem?_eq_some_iff.1 R3_7.out).1
          have z5 : wA.heap.size < w7.heap.size := (Array.getElem?_eq_some_iff.1 R7.out).1
          go_wp2_with fail
          refine (HHE2.out _ _ HG7.out HXF.out).mono ?_
          rintro e w8 ⟨v1, v2, rfl, hy, hb, hb8⟩
          obtain ⟨yl, yk, yr, yt, yd, yu, rfl⟩ := hy.hs_form
          obtain ⟨ab, cb, rfl, -⟩ := id hb
          have HY := Lib.hid (hy.mono (ov_none hb8))
          have HB8 := Lib.hid (hb.mono (ov_none hb8))
          have R3_8 := Lib.hid (row_grow R3_7.out hb8)
          have R5_8 := Lib.hid (row_grow R7.out hb8)
          have HG8 := Lib.hid hb8
          clear hy hb hb8 c0 c1 c2 c3 d0 d1 d2 d3 d4 d5 d6 z3 z5
          obtain ⟨c0, c1, c2, c3⟩ := cells4 R3_8.out
          obtain ⟨d0, d1, d2, d3, d4, d5, d6⟩ := cells7 R5_8.out
          have z3 : w.heap.size < w8.heap.size := (Array.getElem?_eq_some_iff.1 R3_8.out).1
          have z5 : wA.heap.size < w8.heap.size := (Array.getElem?_eq_some_iff.1 R5_8.out).1
          go_wp2_with fail
          refine (ref_sameHouse _ (HXF.out.mono (HG8.out.alloc _).sub) (HY.out.mono ((Grow.refl w8).alloc _).sub)).mono ?_
          rw [decide_eq_true rfl]
          rintro e w9 ⟨rfl, hb9⟩
          have R3_9 := Lib.hid (row_grow (heap_later R3_8.out _) hb9)
          have HG9 := Lib.hid (((Grow.refl w8).alloc (.cells #[.slice yl h'.log.length yk, .int .i64 h'.sums.a, .int .i64 h'.sums.b, .int .i64 h'.sums.c, .int .i64 h'.sums.d, .slice yr h'.ready.length yt, .slice yd h'.done.length yu] 29)).trans hb9)
          clear hb9 c0 c1 c2 c3 z3 d0 d1 d2 d3 d4 d5 d6 z5
          obtain ⟨c0, c1, c2, c3⟩ := cells4 R3_9.out
          have z3 : w.heap.size < w9.heap.size := (Array.getElem?_eq_some_iff.1 R3_9.out).1
          go_wp2
          go_ret
          exact ⟨rfl, (HG7.out.trans HG8.out).trans HG9.out⟩
      · skip
        intro K HK'
        have HK := Lib.hid HK'
        clear HK'
        skip
        try simp only [List.getElem_toArray, List.getElem_cons_succ, List.getElem_cons_zero]
        go_simp
        have RA := Lib.hid (row_new wd (.cells #[.slice none 0 0, .int .i64 0, .int .i64 0, .int .i64 0, .int .i64 0, .slice none 0 0, .slice none 0 0] 29))
        refine HK.out _ _ ⟨fun _ => HS.out _ (GD.alloc _), ?_⟩
        clear HK K
        try simp only [Act.put, List.getElem_toArray, List.getElem_cons_succ, List.getElem_cons_zero, List.setIfInBounds_toArray, List.set_cons_zero, List.set_cons_succ]
        refine but_one (i := 1) (by kernel_rfl) rfl ?_
        intro K HK'
        have HK := Lib.hid HK'
        clear HK'
        skip
        try simp only [List.getElem_toArray, List.getElem_cons_succ, List.getElem_cons_zero]
        go_simp
        go_at_call 29
        refine (HRH.out _ (HBW.out.trans (GD.alloc _))).mono ?_
        rintro e wA ⟨vh, rfl, hH, hbA⟩
        obtain ⟨hl, hk, hr, ht, hd, hu, rfl⟩ := hH.hs_form
        have HH := Lib.hid hH
        have GA := Grow.trans (GD.alloc _) hbA
        have RA1 := Lib.hid (row_grow RA.out hbA)
        clear hH
        refine HK.out _ _ ⟨fun _ => HS.out _ GA, ?_⟩
        clear HK K
        try simp only [Act.put, List.getElem_toArray, List.getElem_cons_succ, List.getElem_cons_zero, List.setIfInBounds_toArray, List.set_cons_zero, List.set_cons_succ]
        refine but_one (i := 5) (by kernel_rfl) rfl ?_
        intro K HK'
        have HK := Lib.hid HK'
        clear HK'
        skip
        try simp only [List.getElem_toArray, List.getElem_cons_succ, List.getElem_cons_zero]
        go_simp
        go_at_call 50
        refine (HHE.out _ _ (HBW.out.trans GA) (HH.out.mono (Grow.refl wA).sub)).mono ?_
        rintro e wC ⟨v1, v2, rfl, hx, ha, hbC⟩
        obtain ⟨xl, xk, xr, xt, xd, xu, rfl⟩ := hx.hs_form
        obtain ⟨aa, ca, rfl, -⟩ := id ha
        have HX0 := Lib.hid (hx.mono (win_ov _ _))
        have HA0 := Lib.hid (ha.mono (win_ov _ _))
        have GC := Grow.trans GA hbC
        have RC := Lib.hid (row_grow RA1.out hbC)
        clear hx ha
        refine HK.out _ _ ⟨fun _ => HS.out _ GC, ?_⟩
        clear HK K
        try simp only [Act.put, List.getElem_toArray, List.getElem_cons_succ, List.getElem_cons_zero, List.setIfInBounds_toArray, List.set_cons_zero, List.set_cons_succ]
        refine but_take (i := 6) (v := ?_) 14 rfl (by kernel_rfl) (by kernel_rfl) (by kernel_rfl) (by kernel_rfl) (by kernel_rfl) (fun _ _ _ h => h) (HS.out _ GC) (Or.inl ⟨by rfl, ?_⟩) ?_
        rotate_left
        · (intro w' hSw; (try dsimp only at hSw); obtain ⟨hs0, hs1, hs2, hs3⟩ := hSw; go_simp <;> with_reducible rfl)
        try simp only [Act.put, List.getElem_toArray, List.getElem_cons_succ, List.getElem_cons_zero, List.setIfInBounds_toArray, List.set_cons_zero, List.set_cons_succ]
        refine but_take (i := 7) (v := ?_) 14 rfl (by kernel_rfl) (by kernel_rfl) (by kernel_rfl) (by kernel_rfl) (by kernel_rfl) (fun _ _ _ h => h) (HS.out _ GC) (Or.inl ⟨by rfl, ?_⟩) ?_
        rotate_left
        · (intro w' hSw; (try dsimp only at hSw); obtain ⟨hs0, hs1, hs2, hs3⟩ := hSw; go_simp <;> with_reducible rfl)
        try simp only [Act.put, List.getElem_toArray, List.getElem_cons_succ, List.getElem_cons_zero, List.setIfInBounds_toArray, List.set_cons_zero, List.set_cons_succ]
        refine but_take (i := 8) (v := ?_) 14 rfl (by kernel_rfl) (by kernel_rfl) (by kernel_rfl) (by kernel_rfl) (by kernel_rfl) (fun _ _ _ h => h) (HS.out _ GC) (Or.inl ⟨by rfl, ?_⟩) ?_
        rotate_left
        · (intro w' hSw; (try dsimp only at hSw); obtain ⟨hs0, hs1, hs2, hs3⟩ := hSw; go_simp <;> with_reducible rfl)
        try simp only [Act.put, List.getElem_toArray, List.getElem_cons_succ, List.getElem_cons_zero, List.setIfInBounds_toArray, List.set_cons_zero, List.set_cons_succ]
        refine but_one (i := 10) (by kernel_rfl) rfl ?_
        intro K HK'
        have HK := Lib.hid HK'
        clear HK'
        refine wanted_go rfl ?_
        try simp only [List.getElem_toArray, List.getElem_cons_succ, List.getElem_cons_zero]
        refine wp_store_row (.tmp 5) (.tmp 22) rfl rfl rfl RC.out info_hs rfl rfl ?_
        intro w7 r7 g7
        have HXF := Lib.hid ((HX0.out.mono (win_set g7 (.inl (Array.getElem?_eq_some_iff.1 RA1.out).1))).mono (win_sub _ _ _))
        have HAF := Lib.hid ((HA0.out.mono (win_set g7 (.inl (Array.getElem?_eq_some_iff.1 RA1.out).1))).mono (win_sub _ _ _))
        have GF := Lib.hid (Grow.grown GC g7 (fun k hk => by obtain rfl := Option.some.inj hk; exact GD.size))
        have R7 := Lib.hid r7
        clear r7 g7
        refine HK.out _ _ ⟨fun _ => HS.out _ GF.out, ?_⟩
        clear HK K
        try simp only [Act.put]
        refine but_one (i := 11) (by kernel_rfl) rfl ?_
        intro K HK'
        have HK := Lib.hid HK'
        clear HK'
        skip
        try simp only [List.getElem_toArray, List.getElem_cons_succ, List.getElem_cons_zero]
        go_simp
        refine HK.out _ _ ⟨fun h => absurd rfl h, ?_⟩
        clear HK K
        try simp only [Act.put, List.getElem_toArray, List.getElem_cons_succ, List.getElem_cons_zero, List.setIfInBounds_toArray, List.set_cons_zero, List.set_cons_succ]
        refine but_done (by kernel_rfl) ?_
        have HG7 : Hid (Grow w w7) := Lib.hid (HBW.out.trans GF.out)
        have R3_7 := Lib.hid (row_grow R3_2.out GF.out)
        clear HH
        obtain ⟨c0, c1, c2, c3⟩ := cells4 R3_7.out
        obtain ⟨d0, d1, d2, d3, d4, d5, d6⟩ := cells7 R7.out
        have z3 : w.heap.size < w7.heap.size := (Array.getElem?_eq_some_iff.1 R3_7.out).1
        have z5 : wd.heap.size < w7.heap.size := (Array.getElem?_eq_some_iff.1 R7.out).1
        go_wp2_with fail
        refine (HHE2.out _ _ HG7.out HXF.out).mono ?_
        rintro e w8 ⟨v1, v2, rfl, hy, hb, hb8⟩
        obtain ⟨yl, yk, yr, yt, yd, yu, rfl⟩ := hy.hs_form
        obtain ⟨ab, cb, rfl, -⟩ := id hb
        have HY := Lib.hid (hy.mono (ov_none hb8))
        have HB8 := Lib.hid (hb.mono (ov_none hb8))
        have R3_8 := Lib.hid (row_grow R3_7.out hb8)
        have R5_8 := Lib.hid (row_grow R7.out hb8)
        have HG8 := Lib.hid hb8
        clear hy hb hb8 c0 c1 c2 c3 d0 d1 d2 d3 d4 d5 d6 z3 z5
        obtain ⟨c0, c1, c2, c3⟩ := cells4 R3_8.out
        obtain ⟨d0, d1, d2, d3, d4, d5, d6⟩ := cells7 R5_8.out
        have z3 : w.heap.size < w8.heap.size := (Array.getElem?_eq_some_iff.1 R3_8.out).1
        have z5 : wd.heap.size < w8.heap.size := (Array.getElem?_eq_some_iff.1 R5_8.out).1
        go_wp2_with fail
        refine (ref_sameHouse _ (HXF.out.mono (HG8.out.alloc _).sub) (HY.out.mono ((Grow.refl w8).alloc _).sub)).mono ?_
        rw [decide_eq_true rfl]
        rintro e w9 ⟨rfl, hb9⟩
        have R3_9 := Lib.hid (row_grow (heap_later R3_8.out _) hb9)
        have HG9 := Lib.hid (((Grow.refl w8).alloc (.cells #[.slice yl h'.log.length yk, .int .i64 h'.sums.a, .int .i64 h'.sums.b, .int .i64 h'.sums.c, .int .i64 h'.sums.d, .slice yr h'.ready.length yt, .slice yd h'.done.length yu] 29)).trans hb9)
        clear hb9 c0 c1 c2 c3 z3 d0 d1 d2 d3 d4 d5 d6 z5
        obtain ⟨c0, c1, c2, c3⟩ := cells4 R3_9.out
        have z3 : w.heap.size < w9.heap.size := (Array.getElem?_eq_some_iff.1 R3_9.out).1
        go_wp2
        go_ret
        exact ⟨rfl, (HG7.out.trans HG8.out).trans HG9.out⟩
    · obtain rfl : a2 = a' := HTM.out.resolve_left h5
      have hb5 : (m.kind == 5) = false := by simpa using h5
      clear h5 HTM
      go_enter Try.func10, Try.ntmps10
      go_wp2_with fail
      refine HAL.out.mono ?_
      rintro e w1 ⟨rfl, hb1⟩
      have R3_1 := Lib.hid (row_grow (row_new w (.cells #[.int .i64 m.kind, .int .i64 m.deed, .int .i64 m.house, .slice ap m.parts.length cp] 39)) hb1)
      have HB1 := Lib.hid (((Grow.refl w).alloc (.cells #[.int .i64 m.kind, .int .i64 m.deed, .int .i64 m.house, .slice ap m.parts.length cp] 39)).trans hb1)
      clear hb1
      obtain ⟨c0, c1, c2, c3⟩ := cells4 R3_1.out
      have z3 : w.heap.size < w1.heap.size := (Array.getElem?_eq_some_iff.1 R3_1.out).1
      go_wp2_with fail
      refine (HRT.out _ HB1.out).mono ?_
      rw [HOK.out]
      rintro e w2 ⟨rfl, hb2⟩
      have R3_2 := Lib.hid (row_grow R3_1.out hb2)
      have HBW := Lib.hid (HB1.out.trans hb2)
      clear hb2 c0 c1 c2 c3 z3
      have HS : Hid (∀ W, Grow w2 W → W.cell? ⟨w.heap.size, 0, none⟩ = some (.int .i64 m.kind) ∧ W.cell? ⟨w.heap.size, 1, none⟩ = some (.int .i64 m.deed) ∧ W.cell? ⟨w.heap.size, 2, none⟩ = some (.int .i64 m.house) ∧ W.cell? ⟨w.heap.size, 3, none⟩ = some (.slice ap m.parts.length cp)) := fun W hW => cells4 (row_grow R3_2.out hW)
      go_wp2_with fail
      refine but_start (fun w' => w'.cell? ⟨w.heap.size, 0, none⟩ = some (.int .i64 m.kind) ∧ w'.cell? ⟨w.heap.size, 1, none⟩ = some (.int .i64 m.deed) ∧ w'.cell? ⟨w.heap.size, 2, none⟩ = some (.int .i64 m.house) ∧ w'.cell? ⟨w.heap.size, 3, none⟩ = some (.slice ap m.parts.length cp)) 11 (by kernel_rfl) ?_
      obtain ⟨wd, hWd⟩ : ∃ x : World, x = w2.drew := ⟨_, rfl⟩
      rw [← hWd]
      have GD : Grow w2 wd := by rw [hWd]; exact (Grow.refl _).drew
      have zD : w2.heap.size = wd.heap.size := by rw [hWd]; rfl
      have ZD := Lib.hid zD
      clear hWd zD
      refine but_take (i := 0) (v := ?_) 14 rfl (by kernel_rfl) (by kernel_rfl) (by kernel_rfl) (by kernel_rfl) (by kernel_rfl) (fun _ _ _ h => h) (HS.out _ GD) (Or.inl ⟨by rfl, ?_⟩) ?_
      rotate_left
      · (intro w' hSw; (try dsimp only at hSw); obtain ⟨hs0, hs1, hs2, hs3⟩ := hSw; go_simp <;> with_reducible rfl)
      try simp only [Act.put, List.getElem_toArray, List.getElem_cons_zero, List.setIfInBounds_toArray, List.set_cons_zero, List.set_cons_succ]
      refine but_take (i := 2) (v := ?_) 14 rfl (by kernel_rfl) (by kernel_rfl) (by kernel_rfl) (by kernel_rfl) (by kernel_rfl) (fun _ _ _ h => h) (HS.out _ GD) (Or.inl ⟨by rfl, ?_⟩) ?_
      rotate_left
      · (intro w' hSw; (try dsimp only at hSw); obtain ⟨hs0, hs1, hs2, hs3⟩ := hSw; go_simp <;> with_reducible rfl)
      try simp only [Act.put, List.getElem_toArray, List.getElem_cons_succ, List.getElem_cons_zero, List.setIfInBounds_toArray, List.set_cons_zero, List.set_cons_succ]
      refine but_take (i := 3) (v := ?_) 14 rfl (by kernel_rfl) (by kernel_rfl) (by kernel_rfl) (by kernel_rfl) (by kernel_rfl) (fun _ _ _ h => h) (HS.out _ GD) (Or.inl ⟨by rfl, ?_⟩) ?_
      rotate_left
      · (intro w' hSw; (try dsimp only at hSw); obtain ⟨hs0, hs1, hs2, hs3⟩ := hSw; go_simp <;> with_reducible rfl)
      try simp only [Act.put, List.getElem_toArray, List.getElem_cons_succ, List.getElem_cons_zero, List.setIfInBounds_toArray, List.set_cons_zero, List.set_cons_succ]
      refine but_take (i := 4) (v := ?_) 14 rfl (by kernel_rfl) (by kernel_rfl) (by kernel_rfl) (by kernel_rfl) (by kernel_rfl) (fun _ _ _ h => h) (HS.out _ GD) (Or.inl ⟨by rfl, ?_⟩) ?_
      rotate_left
      · (intro w' hSw; (try dsimp only at hSw); obtain ⟨hs0, hs1, hs2, hs3⟩ := hSw; go_simp <;> with_reducible rfl)
      try simp only [Act.put, List.getElem_toArray, List.getElem_cons_succ, List.getElem_cons_zero, List.setIfInBounds_toArray, List.set_cons_zero, List.set_cons_succ]
      refine but_two (i := 1) (j := 9) (by kernel_rfl) rfl rfl ?_ ?_
      · skip
        intro K HK'
        have HK := Lib.hid HK'
        clear HK'
        skip
        try simp only [List.getElem_toArray, List.getElem_cons_succ, List.getElem_cons_zero]
        go_simp
        go_at_call 29
        refine (HRH.out _ (HBW.out.trans GD)).mono ?_
        rintro e wA ⟨vh, rfl, hH, hbA⟩
        obtain ⟨hl, hk, hr, ht, hd, hu, rfl⟩ := hH.hs_form
        have HH := Lib.hid hH
        have GA := Grow.trans GD hbA
        clear hH
        refine HK.out _ _ ⟨fun _ => HS.out _ GA, ?_⟩
        clear HK K
        try simp only [Act.put, List.getElem_toArray, List.getElem_cons_succ, List.getElem_cons_zero, List.setIfInBounds_toArray, List.set_cons_zero, List.set_cons_succ]
        refine but_two (i := 5) (j := 9) (by kernel_rfl) rfl rfl ?_ ?_
        · skip
          intro K HK'
          have HK := Lib.hid HK'
          clear HK'
          skip
          try simp only [List.getElem_toArray, List.getElem_cons_succ, List.getElem_cons_zero]
          go_simp
          go_at_call 50
          refine (HHE.out _ _ (HBW.out.trans GA) (HH.out.mono (Grow.refl wA).sub)).mono ?_
          rintro e wC ⟨v1, v2, rfl, hx, ha, hbC⟩
          obtain ⟨xl, xk, xr, xt, xd, xu, rfl⟩ := hx.hs_form
          obtain ⟨aa, ca, rfl, -⟩ := id ha
          have HX0 := Lib.hid (hx.mono (win_ov _ _))
          have HA0 := Lib.hid (ha.mono (win_ov _ _))
          have GC := Grow.trans GA hbC
          clear hx ha
          refine HK.out _ _ ⟨fun _ => HS.out _ GC, ?_⟩
          clear HK K
          try simp only [Act.put, List.getElem_toArray, List.getElem_cons_succ, List.getElem_cons_zero, List.setIfInBounds_toArray, List.set_cons_zero, List.set_cons_succ]
          refine but_take (i := 6) (v := ?_) 14 rfl (by kernel_rfl) (by kernel_rfl) (by kernel_rfl) (by kernel_rfl) (by kernel_rfl) (fun _ _ _ h => h) (HS.out _ GC) (Or.inl ⟨by rfl, ?_⟩) ?_
          rotate_left
          · (intro w' hSw; (try dsimp only at hSw); obtain ⟨hs0, hs1, hs2, hs3⟩ := hSw; go_simp <;> with_reducible rfl)
          try simp only [Act.put, List.getElem_toArray, List.getElem_cons_succ, List.getElem_cons_zero, List.setIfInBounds_toArray, List.set_cons_zero, List.set_cons_succ]
          refine but_take (i := 7) (v := ?_) 14 rfl (by kernel_rfl) (by kernel_rfl) (by kernel_rfl) (by kernel_rfl) (by kernel_rfl) (fun _ _ _ h => h) (HS.out _ GC) (Or.inl ⟨by rfl, ?_⟩) ?_
          rotate_left
          · (intro w' hSw; (try dsimp only at hSw); obtain ⟨hs0, hs1, hs2, hs3⟩ := hSw; go_simp <;> with_reducible rfl)
          try simp only [Act.put, List.getElem_toArray, List.getElem_cons_succ, List.getElem_cons_zero, List.setIfInBounds_toArray, List.set_cons_zero, List.set_cons_succ]
          refine but_take (i := 8) (v := ?_) 14 rfl (by kernel_rfl) (by kernel_rfl) (by kernel_rfl) (by kernel_rfl) (by kernel_rfl) (fun _ _ _ h => h) (HS.out _ GC) (Or.inl ⟨by rfl, ?_⟩) ?_
          rotate_left
          · (intro w' hSw; (try dsimp only at hSw); obtain ⟨hs0, hs1, hs2, hs3⟩ := hSw; go_simp <;> with_reducible rfl)
          try simp only [Act.put, List.getElem_toArray, List.getElem_cons_succ, List.getElem_cons_zero, List.setIfInBounds_toArray, List.set_cons_zero, List.set_cons_succ]
          refine but_one (i := 9) (by kernel_rfl) rfl ?_
          intro K HK'
          have HK := Lib.hid HK'
          clear HK'
          skip
          try simp only [List.getElem_toArray, List.getElem_cons_succ, List.getElem_cons_zero]
          go_simp
          have RA := Lib.hid (row_new wC (.cells #[.slice none 0 0, .int .i64 0, .int .i64 0, .int .i64 0, .int .i64 0, .slice none 0 0, .slice none 0 0] 29))
          refine HK.out _ _ ⟨fun _ => HS.out _ (GC.alloc _), ?_⟩
          clear HK K
          try simp only [Act.put, List.getElem_toArray, List.getElem_cons_succ, List.getElem_cons_zero, List.setIfInBounds_toArray, List.set_cons_zero, List.set_cons_succ]
          refine but_one (i := 10) (by kernel_rfl) rfl ?_
          intro K HK'
          have HK := Lib.hid HK'
          clear HK'
          refine wanted_go rfl ?_
          try simp only [List.getElem_toArray, List.getElem_cons_succ, List.getElem_cons_zero]
          refine wp_store_row (.tmp 5) (.tmp 22) rfl rfl rfl RA.out info_hs rfl rfl ?_
          intro w7 r7 g7
          have HXF := Lib.hid (((HX0.out.mono (win_grow ((Grow.refl _).alloc _) _ _)).mono (win_set g7 (.inr (Nat.le_refl _)))).mono (win_sub _ _ _))
          have HAF := Lib.hid (((HA0.out.mono (win_grow ((Grow.refl _).alloc _) _ _)).mono (win_set g7 (.inr (Nat.le_refl _)))).mono (win_sub _ _ _))
          have GF := Lib.hid (Grow.grown (GC.alloc _) g7 (fun k hk => by obtain rfl := Option.some.inj hk; exact GC.size))
          have R7 := Lib.hid r7
          clear r7 g7
          refine HK.out _ _ ⟨fun _ => HS.out _ GF.out, ?_⟩
          clear HK K
          try simp only [Act.put]
          refine but_one (i := 11) (by kernel_rfl) rfl ?_
          intro K HK'
          have HK := Lib.hid HK'
          clear HK'
          skip
          try simp only [List.getElem_toArray, List.getElem_cons_succ, List.getElem_cons_zero]
          go_simp
          refine HK.out _ _ ⟨fun h => absurd rfl h, ?_⟩
          clear HK K
          try simp only [Act.put, List.getElem_toArray, List.getElem_cons_succ, List.getElem_cons_zero, List.setIfInBounds_toArray, List.set_cons_zero, List.set_cons_succ]
          refine but_done (by kernel_rfl) ?_
          have HG7 : Hid (Grow w w7) := Lib.hid (HBW.out.trans GF.out)
          have R3_7 := Lib.hid (row_grow R3_2.out GF.out)
          clear HH
          obtain ⟨c0, c1, c2, c3⟩ := cells4 R3_7.out
          obtain ⟨d0, d1, d2, d3, d4, d5, d6⟩ := cells7 R7.out
          have z3 : w.heap.size < w7.heap.size := (Array.getElem?_eq_some_iff.1 R3_7.out).1
          have z5 : wC.heap.size < w7.heap.size := (Array.getElem?_eq_some_iff.1 R7.out).1
          go_wp2_with fail
          refine (HHE2.out _ _ HG7.out HXF.out).mono ?_
          rintro e w8 ⟨v1, v2, rfl, hy, hb, hb8⟩
          obtain ⟨yl, yk, yr, yt, yd, yu, rfl⟩ := hy.hs_form
          obtain ⟨ab, cb, rfl, -⟩ := id hb
          have HY := Lib.hid (hy.mono (ov_none hb8))
          have HB8 := Lib.hid (hb.mono (ov_none hb8))
          have R3_8 := Lib.hid (row_grow R3_7.out hb8)
          have R5_8 := Lib.hid (row_grow R7.out hb8)
          have HG8 := Lib.hid hb8
          clear hy hb hb8 c0 c1 c2 c3 d0 d1 d2 d3 d4 d5 d6 z3 z5
          obtain ⟨c0, c1, c2, c3⟩ := cells4 R3_8.out
          obtain ⟨d0, d1, d2, d3, d4, d5, d6⟩ := cells7 R5_8.out
          have z3 : w.heap.size < w8.heap.size := (Array.getElem?_eq_some_iff.1 R3_8.out).1
          have z5 : wC.heap.size < w8.heap.size := (Array.getElem?_eq_some_iff.1 R5_8.out).1
          go_wp2_with fail
          refine (ref_sameHouse _ (HXF.out.mono (HG8.out.alloc _).sub) (HY.out.mono ((Grow.refl w8).alloc _).sub)).mono ?_
          rw [decide_eq_true rfl]
          rintro e w9 ⟨rfl, hb9⟩
          have R3_9 := Lib.hid (row_grow (heap_later R3_8.out _) hb9)
          have HG9 := Lib.hid (((Grow.refl w8).alloc (.cells #[.slice yl h'.log.length yk, .int .i64 h'.sums.a, .int .i64 h'.sums.b, .int .i64 h'.sums.c, .int .i64 h'.sums.d, .slice yr h'.ready.length yt, .slice yd h'.done.length yu] 29)).trans hb9)
          clear hb9 c0 c1 c2 c3 z3 d0 d1 d2 d3 d4 d5 d6 z5
          obtain ⟨c0, c1, c2, c3⟩ := cells4 R3_9.out
          have z3 : w.heap.size < w9.heap.size := (Array.getElem?_eq_some_iff.1 R3_9.out).1
          go_wp2_with fail
          refine (ref_sameMsgs _ (HAF.out.mono (HG8.out.trans HG9.out).sub) (HB8.out.mono HG9.out.sub)).mono ?_
          rw [decide_eq_true rfl]
          rintro e w10 ⟨rfl, hb10⟩
          go_wp2
          go_ret
          exact ⟨rfl, ((HG7.out.trans HG8.out).trans HG9.out).trans hb10⟩
        · skip
          intro K HK'
          have HK := Lib.hid HK'
          clear HK'
          skip
          try simp only [List.getElem_toArray, List.getElem_cons_succ, List.getElem_cons_zero]
          go_simp
          have RA := Lib.hid (row_new wA (.cells #[.slice none 0 0, .int .i64 0, .int .i64 0, .int .i64 0, .int .i64 0, .slice none 0 0, .slice none 0 0] 29))
          refine HK.out _ _ ⟨fun _ => HS.out _ (GA.alloc _), ?_⟩
          clear HK K
          try simp only [Act.put, List.getElem_toArray, List.getElem_cons_succ, List.getElem_cons_zero, List.setIfInBounds_toArray, List.set_cons_zero, List.set_cons_succ]
          refine but_one (i := 5) (by kernel_rfl) rfl ?_
          intro K HK'
          have HK := Lib.hid HK'
          clear HK'
          skip
          try simp only [List.getElem_toArray, List.getElem_cons_succ, List.getElem_cons_zero]
          go_simp
          go_at_call 50
          refine (HHE.out _ _ (HBW.out.trans (GA.alloc _)) (HH.out.mono ((Grow.refl wA).alloc _).sub)).mono ?_
          rintro e wC ⟨v1, v2, rfl, hx, ha, hbC⟩
          obtain ⟨xl, xk, xr, xt, xd, xu, rfl⟩ := hx.hs_form
          obtain ⟨aa, ca, rfl, -⟩ := id ha
          have HX0 := Lib.hid (hx.mono (win_ov _ _))
          have HA0 := Lib.hid (ha.mono (win_ov _ _))
          have GC := Grow.trans (GA.alloc _) hbC
          have RC := Lib.hid (row_grow RA.out hbC)
          clear hx ha
          refine HK.out _ _ ⟨fun _ => HS.out _ GC, ?_⟩
          clear HK K
          try simp only [Act.put, List.getElem_toArray, List.getElem_cons_succ, List.getElem_cons_zero, List.setIfInBounds_toArray, List.set_cons_zero, List.set_cons_succ]
          refine but_take (i := 6) (v := ?_) 14 rfl (by kernel_rfl) (by kernel_rfl) (by kernel_rfl) (by kernel_rfl) (by kernel_rfl) (fun _ _ _ h => h) (HS.out _ GC) (Or.inl ⟨by rfl, ?_⟩) ?_
          rotate_left
          · (intro w' hSw; (try dsimp only at hSw); obtain ⟨hs0, hs1, hs2, hs3⟩ := hSw; go_simp <;> with_reducible rfl)
          try simp only [Act.put, List.getElem_toArray, List.getElem_cons_succ, List.getElem_cons_zero, List.setIfInBounds_toArray, List.set_cons_zero, List.set_cons_succ]
          refine but_take (i := 7) (v := ?_) 14 rfl (by kernel_rfl) (by kernel_rfl) (by kernel_rfl) (by kernel_rfl) (by kernel_rfl) (fun _ _ _ h => h) (HS.out _ GC) (Or.inl ⟨by rfl, ?_⟩) ?_
          rotate_left
          · (intro w' hSw; (try dsimp only at hSw); obtain ⟨hs0, hs1, hs2, hs3⟩ := hSw; go_simp <;> with_reducible rfl)
          try simp only [Act.put, List.getElem_toArray, List.getElem_cons_succ, List.getElem_cons_zero, List.setIfInBounds_toArray, List.set_cons_zero, List.set_cons_succ]
          refine but_take (i := 8) (v := ?_) 14 rfl (by kernel_rfl) (by kernel_rfl) (by kernel_rfl) (by kernel_rfl) (by kernel_rfl) (fun _ _ _ h => h) (HS.out _ GC) (Or.inl ⟨by rfl, ?_⟩) ?_
          rotate_left
          · (intro w' hSw; (try dsimp only at hSw); obtain ⟨hs0, hs1, hs2, hs3⟩ := hSw; go_simp <;> with_reducible rfl)
          try simp only [Act.put, List.getElem_toArray, List.getElem_cons_succ, List.getElem_cons_zero, List.setIfInBounds_toArray, List.set_cons_zero, List.set_cons_succ]
          refine but_one (i := 10) (by kernel_rfl) rfl ?_
          intro K HK'
          have HK := Lib.hid HK'
          clear HK'
          refine wanted_go rfl ?_
          try simp only [List.getElem_toArray, List.getElem_cons_succ, List.getElem_cons_zero]
          refine wp_store_row (.tmp 5) (.tmp 22) rfl rfl rfl RC.out info_hs rfl rfl ?_
          intro w7 r7 g7
          have HXF := Lib.hid ((HX0.out.mono (win_set g7 (.inl (Array.getElem?_eq_some_iff.1 RA.out).1))).mono (win_sub _ _ _))
          have HAF := Lib.hid ((HA0.out.mono (win_set g7 (.inl (Array.getElem?_eq_some_iff.1 RA.out).1))).mono (win_sub _ _ _))
          have GF := Lib.hid (Grow.grown GC g7 (fun k hk => by obtain rfl := Option.some.inj hk; exact GA.size))
          have R7 := Lib.hid r7
          clear r7 g7
          refine HK.out _ _ ⟨fun _ => HS.out _ GF.out, ?_⟩
          clear HK K
          try simp only [Act.put]
          refine but_one (i := 11) (by kernel_rfl) rfl ?_
          intro K HK'
          have HK := Lib.hid HK'
          clear HK'
          skip
          try simp only [List.getElem_toArray, List.getElem_cons_succ, List.getElem_cons_zero]
          go_simp
          refine HK.out _ _ ⟨fun h => absurd rfl h, ?_⟩
          clear HK K
          try simp only [Act.put, List.getElem_toArray, List.getElem_cons_succ, List.getElem_cons_zero, List.setIfInBounds_toArray, List.set_cons_zero, List.set_cons_succ]
          refine but_done (by kernel_rfl) ?_
          have HG7 : Hid (Grow w w7) := Lib.hid (HBW.out.trans GF.out)
          have R3_7 := Lib.hid (row_grow R3_2.out GF.out)
          clear HH
          obtain ⟨c0, c1, c2, c3⟩ := cells4 R3_7.out
          obtain ⟨d0, d1, d2, d3, d4, d5, d6⟩ := cells7 R7.out
          have z3 : w.heap.size < w7.heap.size := (Array.getElem?_eq_some_iff.1 R3_7.out).1
          have z5 : wA.heap.size < w7.heap.size := (Array.getElem?_eq_some_iff.1 R7.out).1
          go_wp2_with fail
          refine (HHE2.out _ _ HG7.out HXF.out).mono ?_
          rintro e w8 ⟨v1, v2, rfl, hy, hb, hb8⟩
          obtain ⟨yl, yk, yr, yt, yd, yu, rfl⟩ := hy.hs_form
          obtain ⟨ab, cb, rfl, -⟩ := id hb
          have HY := Lib.hid (hy.mono (ov_none hb8))
          have HB8 := Lib.hid (hb.mono (ov_none hb8))
          have R3_8 := Lib.hid (row_grow R3_7.out hb8)
          have R5_8 := Lib.hid (row_grow R7.out hb8)
          have HG8 := Lib.hid hb8
          clear hy hb hb8 c0 c1 c2 c3 d0 d1 d2 d3 d4 d5 d6 z3 z5
          obtain ⟨c0, c1, c2, c3⟩ := cells4 R3_8.out
          obtain ⟨d0, d1, d2, d3, d4, d5, d6⟩ := cells7 R5_8.out
          have z3 : w.heap.size < w8.heap.size := (Array.getElem?_eq_some_iff.1 R3_8.out).1
          have z5 : wA.heap.size < w8.heap.size := (Array.getElem?_eq_some_iff.1 R5_8.out).1
          go_wp2_with fail
          refine (ref_sameHouse _ (HXF.out.mono (HG8.out.alloc _).sub) (HY.out.mono ((Grow.refl w8).alloc _).sub)).mono ?_
          rw [decide_eq_true rfl]
          rintro e w9 ⟨rfl, hb9⟩
          have R3_9 := Lib.hid (row_grow (heap_later R3_8.out _) hb9)
          have HG9 := Lib.hid (((Grow.refl w8).alloc (.cells #[.slice yl h'.log.length yk, .int .i64 h'.sums.a, .int .i64 h'.sums.b, .int .i64 h'.sums.c, .int .i64 h'.sums.d, .slice yr h'.ready.length yt, .slice yd h'.done.length yu] 29)).trans hb9)
          clear hb9 c0 c1 c2 c3 z3 d0 d1 d2 d3 d4 d5 d6 z5
          obtain ⟨c0, c1, c2, c3⟩ := cells4 R3_9.out
          have z3 : w.heap.size < w9.heap.size := (Array.getElem?_eq_some_iff.1 R3_9.out).1
          go_wp2_with fail
          refine (ref_sameMsgs _ (HAF.out.mono (HG8.out.trans HG9.out).sub) (HB8.out.mono HG9.out.sub)).mono ?_
          rw [decide_eq_true rfl]
          rintro e w10 ⟨rfl, hb10⟩
          go_wp2
          go_ret
          exact ⟨rfl, ((HG7.out.trans HG8.out).trans HG9.out).trans hb10⟩
      · skip
        intro K HK'
        have HK := Lib.hid HK'
        clear HK'
        skip
        try simp only [List.getElem_toArray, List.getElem_cons_succ, List.getElem_cons_zero]
        go_simp
        have RA := Lib.hid (row_new wd (.cells #[.slice none 0 0, .int .i64 0, .int .i64 0, .int .i64 0, .int .i64 0, .slice none 0 0, .slice none 0 0] 29))
        refine HK.out _ _ ⟨fun _ => HS.out _ (GD.alloc _), ?_⟩
        clear HK K
        try simp only [Act.put, List.getElem_toArray, List.getElem_cons_succ, List.getElem_cons_zero, List.setIfInBounds_toArray, List.set_cons_zero, List.set_cons_succ]
        refine but_one (i := 1) (by kernel_rfl) rfl ?_
        intro K HK'
        have HK := Lib.hid HK'
        clear HK'
        skip
        try simp only [List.getElem_toArray, List.getElem_cons_succ, List.getElem_cons_zero]
        go_simp
        go_at_call 29
        refine (HRH.out _ (HBW.out.trans (GD.alloc _))).mono ?_
        rintro e wA ⟨vh, rfl, hH, hbA⟩
        obtain ⟨hl, hk, hr, ht, hd, hu, rfl⟩ := hH.hs_form
        have HH := Lib.hid hH
        have GA := Grow.trans (GD.alloc _) hbA
        have RA1 := Lib.hid (row_grow RA.out hbA)
        clear hH
        refine HK.out _ _ ⟨fun _ => HS.out _ GA, ?_⟩
        clear HK K
        try simp only [Act.put, List.getElem_toArray, List.getElem_cons_succ, List.getElem_cons_zero, List.setIfInBounds_toArray, List.set_cons_zero, List.set_cons_succ]
        refine but_one (i := 5) (by kernel_rfl) rfl ?_
        intro K HK'
        have HK := Lib.hid HK'
        clear HK'
        skip
        try simp only [List.getElem_toArray, List.getElem_cons_succ, List.getElem_cons_zero]
        go_simp
        go_at_call 50
        refine (HHE.out _ _ (HBW.out.trans GA) (HH.out.mono (Grow.refl wA).sub)).mono ?_
        rintro e wC ⟨v1, v2, rfl, hx, ha, hbC⟩
        obtain ⟨xl, xk, xr, xt, xd, xu, rfl⟩ := hx.hs_form
        obtain ⟨aa, ca, rfl, -⟩ := id ha
        have HX0 := Lib.hid (hx.mono (win_ov _ _))
        have HA0 := Lib.hid (ha.mono (win_ov _ _))
        have GC := Grow.trans GA hbC
        have RC := Lib.hid (row_grow RA1.out hbC)
        clear hx ha
        refine HK.out _ _ ⟨fun _ => HS.out _ GC, ?_⟩
        clear HK K
        try simp only [Act.put, List.getElem_toArray, List.getElem_cons_succ, List.getElem_cons_zero, List.setIfInBounds_toArray, List.set_cons_zero, List.set_cons_succ]
        refine but_take (i := 6) (v := ?_) 14 rfl (by kernel_rfl) (by kernel_rfl) (by kernel_rfl) (by kernel_rfl) (by kernel_rfl) (fun _ _ _ h => h) (HS.out _ GC) (Or.inl ⟨by rfl, ?_⟩) ?_
        rotate_left
        · (intro w' hSw; (try dsimp only at hSw); obtain ⟨hs0, hs1, hs2, hs3⟩ := hSw; go_simp <;> with_reducible rfl)
        try simp only [Act.put, List.getElem_toArray, List.getElem_cons_succ, List.getElem_cons_zero, List.setIfInBounds_toArray, List.set_cons_zero, List.set_cons_succ]
        refine but_take (i := 7) (v := ?_) 14 rfl (by kernel_rfl) (by kernel_rfl) (by kernel_rfl) (by kernel_rfl) (by kernel_rfl) (fun _ _ _ h => h) (HS.out _ GC) (Or.inl ⟨by rfl, ?_⟩) ?_
        rotate_left
        · (intro w' hSw; (try dsimp only at hSw); obtain ⟨hs0, hs1, hs2, hs3⟩ := hSw; go_simp <;> with_reducible rfl)
        try simp only [Act.put, List.getElem_toArray, List.getElem_cons_succ, List.getElem_cons_zero, List.setIfInBounds_toArray, List.set_cons_zero, List.set_cons_succ]
        refine but_take (i := 8) (v := ?_) 14 rfl (by kernel_rfl) (by kernel_rfl) (by kernel_rfl) (by kernel_rfl) (by kernel_rfl) (fun _ _ _ h => h) (HS.out _ GC) (Or.inl ⟨by rfl, ?_⟩) ?_
        rotate_left
        · (intro w' hSw; (try dsimp only at hSw); obtain ⟨hs0, hs1, hs2, hs3⟩ := hSw; go_simp <;> with_reducible rfl)
        try simp only [Act.put, List.getElem_toArray, List.getElem_cons_succ, List.getElem_cons_zero, List.setIfInBounds_toArray, List.set_cons_zero, List.set_cons_succ]
        refine but_one (i := 10) (by kernel_rfl) rfl ?_
        intro K HK'
        have HK := Lib.hid HK'
        clear HK'
        refine wanted_go rfl ?_
        try simp only [List.getElem_toArray, List.getElem_cons_succ, List.getElem_cons_zero]
        refine wp_store_row (.tmp 5) (.tmp 22) rfl rfl rfl RC.out info_hs rfl rfl ?_
        intro w7 r7 g7
        have HXF := Lib.hid ((HX0.out.mono (win_set g7 (.inl (Array.getElem?_eq_some_iff.1 RA1.out).1))).mono (win_sub _ _ _))
        have HAF := Lib.hid ((HA0.out.mono (win_set g7 (.inl (Array.getElem?_eq_some_iff.1 RA1.out).1))).mono (win_sub _ _ _))
        have GF := Lib.hid (Grow.grown GC g7 (fun k hk => by obtain rfl := Option.some.inj hk; exact GD.size))
        have R7 := Lib.hid r7
        clear r7 g7
        refine HK.out _ _ ⟨fun _ => HS.out _ GF.out, ?_⟩
        clear HK K
        try simp only [Act.put]
        refine but_one (i := 11) (by kernel_rfl) rfl ?_
        intro K HK'
        have HK := Lib.hid HK'
        clear HK'
        skip
        try simp only [List.getElem_toArray, List.getElem_cons_succ, List.getElem_cons_zero]
        go_simp
        refine HK.out _ _ ⟨fun h => absurd rfl h, ?_⟩
        clear HK K
        try simp only [Act.put, List.getElem_toArray, List.getElem_cons_succ, List.getElem_cons_zero, List.setIfInBounds_toArray, List.set_cons_zero, List.set_cons_succ]
        refine but_done (by kernel_rfl) ?_
        have HG7 : Hid (Grow w w7) := Lib.hid (HBW.out.trans GF.out)
        have R3_7 := Lib.hid (row_grow R3_2.out GF.out)
        clear HH
        obtain ⟨c0, c1, c2, c3⟩ := cells4 R3_7.out
        obtain ⟨d0, d1, d2, d3, d4, d5, d6⟩ := cells7 R7.out
        have z3 : w.heap.size < w7.heap.size := (Array.getElem?_eq_some_iff.1 R3_7.out).1
        have z5 : wd.heap.size < w7.heap.size := (Array.getElem?_eq_some_iff.1 R7.out).1
        go_wp2_with fail
        refine (HHE2.out _ _ HG7.out HXF.out).mono ?_
        rintro e w8 ⟨v1, v2, rfl, hy, hb, hb8⟩
        obtain ⟨yl, yk, yr, yt, yd, yu, rfl⟩ := hy.hs_form
        obtain ⟨ab, cb, rfl, -⟩ := id hb
        have HY := Lib.hid (hy.mono (ov_none hb8))
        have HB8 := Lib.hid (hb.mono (ov_none hb8))
        have R3_8 := Lib.hid (row_grow R3_7.out hb8)
        have R5_8 := Lib.hid (row_grow R7.out hb8)
        have HG8 := Lib.hid hb8
        clear hy hb hb8 c0 c1 c2 c3 d0 d1 d2 d3 d4 d5 d6 z3 z5
        obtain ⟨c0, c1, c2, c3⟩ := cells4 R3_8.out
        obtain ⟨d0, d1, d2, d3, d4, d5, d6⟩ := cells7 R5_8.out
        have z3 : w.heap.size < w8.heap.size := (Array.getElem?_eq_some_iff.1 R3_8.out).1
        have z5 : wd.heap.size < w8.heap.size := (Array.getElem?_eq_some_iff.1 R5_8.out).1
        go_wp2_with fail
        refine (ref_sameHouse _ (HXF.out.mono (HG8.out.alloc _).sub) (HY.out.mono ((Grow.refl w8).alloc _).sub)).mono ?_
        rw [decide_eq_true rfl]
        rintro e w9 ⟨rfl, hb9⟩
        have R3_9 := Lib.hid (row_grow (heap_later R3_8.out _) hb9)
        have HG9 := Lib.hid (((Grow.refl w8).alloc (.cells #[.slice yl h'.log.length yk, .int .i64 h'.sums.a, .int .i64 h'.sums.b, .int .i64 h'.sums.c, .int .i64 h'.sums.d, .slice yr h'.ready.length yt, .slice yd h'.done.length yu] 29)).trans hb9)
        clear hb9 c0 c1 c2 c3 z3 d0 d1 d2 d3 d4 d5 d6 z5
        obtain ⟨c0, c1, c2, c3⟩ := cells4 R3_9.out
        have z3 : w.heap.size < w9.heap.size := (Array.getElem?_eq_some_iff.1 R3_9.out).1
        go_wp2_with fail
        refine (ref_sameMsgs _ (HAF.out.mono (HG8.out.trans HG9.out).sub) (HB8.out.mono HG9.out.sub)).mono ?_
        rw [decide_eq_true rfl]
        rintro e w10 ⟨rfl, hb10⟩
        go_wp2
        go_ret
        exact ⟨rfl, ((HG7.out.trans HG8.out).trans HG9.out).trans hb10⟩
end Go.Proofs.Ytgbhpghgohggcaa
