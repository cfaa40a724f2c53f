/- Walks: Who, Free of the program. -/
import Derived.Test.YtgbhpghgohggcaaL2
namespace Go.Proofs.Ytgbhpghgohggcaa
open Go.RowKit

theorem who_lit (w : World) (B : Nat) (key : Int) (p : Pt) (hc : w.cell? ⟨B, 0, none⟩ = some (.int .i64 key)) :
    Calls Try.prog 116 #[.agg #[.int .i64 p.h, .int .i64 p.k, .int .i64 p.n], .pointer (some ⟨B, 0, none⟩)] w fun e w' => e = .returned (.bool (p.k == key)) ∧ Grow w w' := by
  have hB := World.block_lt_of_cell? w _ hc
  simp only at hB
  go_enter Try.func116, Try.ntmps116
  go_wp2
  go_ret
  exact ⟨rfl, (by repeat (first | with_reducible assumption | with_reducible exact Grow.refl _ | with_reducible apply Grow.drewN | with_reducible apply Grow.drew | with_reducible apply Grow.alloc | (refine Grow.setCell ?_ (by simp; done) _)))⟩
theorem who_tells (w : World) (B : Nat) (key : Int) (l : List Pt) (hc : w.cell? ⟨B, 0, none⟩ = some (.int .i64 key)) : Tells Try.prog Ty.pt aggOf w 116 #[.pointer (some ⟨B, 0, none⟩)] l (fun p => p.k == key) where
  ent := fun args w => by kernel_rfl
  say := by
    rintro wx cs p hg _ ⟨rfl, _⟩
    exact who_lit wx B key p (hg.sub _ _ hc)

set_option maxRecDepth 100000 in
set_option maxHeartbeats 1000000 in
theorem locks_who {v : Value} {h : Hs} {key : Int} (w : World) (hv : Of Ty.hs w.cell? v h) :
    Calls Try.prog 31 #[v, .int .i64 key] w fun e w' => e = .returned (.int .i64 (whoE h.ready key)) ∧ Grow w w' := by
  obtain ⟨cs, rfl, vl, vr, vd, rfl, hl, -, -, -, -, hr, hd⟩ := hv
  obtain ⟨al, cl, rfl, -⟩ := id hl
  obtain ⟨ad, cd, rfl, -⟩ := id hd
  obtain ⟨a, cap, rfl, h1, h2, -, hel⟩ := hr
  unfold maxLen at h2
  go_enter Try.func31, Try.ntmps31
  go_wp2
  go_loopw [4, 6, 10] (fun _ _ i wr => ∃ k : Nat, k ≤ h.ready.length ∧ i = .int .i64 k ∧ Grow w wr ∧ wr.cell? ⟨w.heap.size + 1, 0, none⟩ = some (.int .i64 key) ∧ ∀ r ∈ h.ready.take k, hasKey key r = false) (fun _ _ i _ => h.ready.length - (intOf i).toNat)
  case atStart => exact ⟨0, by omega, rfl, (by repeat (first | with_reducible assumption | with_reducible exact Grow.refl _ | with_reducible apply Grow.drewN | with_reducible apply Grow.drew | with_reducible apply Grow.alloc | (refine Grow.setCell ?_ (by simp; done) _))), by simp, by simp⟩
  case round =>
    obtain ⟨k, hk', rfl, hb, hkey, hE⟩ := hrel
    by_cases hlt : k < h.ready.length
    · obtain ⟨b, o, vp, rfl, c0, c1, -, hP⟩ := Rds.at_ hel k hlt
      obtain ⟨ap, cp, rfl, hp1, hp2, hp0, hpel⟩ := id hP
      replace c0 := hb.sub _ _ c0
      replace c1 := hb.sub _ _ c1
      obtain ⟨s1, s2⟩ := who_step hlt hE
      have H1 := Lib.hid s1
      have H2 := Lib.hid s2
      have hcall := fun (W : World) (hW : Grow wr W) => containsFunc_pt W (Sl.mono (hb.trans hW).sub hP) (who_tells W (w.heap.size + 1) key h.ready[k].parts (hW.sub _ _ hkey))
      have HC := Lib.hid hcall
      have HK := Lib.hid hkey
      have hq : h.ready[k].parts.any (fun p => p.k == key) = hasKey key h.ready[k] := rfl
      rw [hq] at HC
      clear hel hP hE s1 s2 hp1 hp2 hp0 hpel hcall hq hkey
      generalize h.ready[k] = r at *
      cases tk : hasKey key r
      · rw [tk] at HC
        go_wp2_with (go_at_call 115; refine (HC.out _ ((Grow.refl _).alloc _)).mono ?_; rintro e w1 ⟨rfl, hb1⟩; have HB1 := Lib.hid hb1; clear hb1)
        go_roundw
        case rel => exact ⟨k + 1, by omega, by go_num, (hb.alloc _).trans HB1.out, (((Grow.refl wr).alloc _).trans HB1.out).sub _ _ HK.out, H2.out tk⟩
        case measure => simp [intOf]; omega
      · rw [tk] at HC
        go_wp2_with (go_at_call 115; refine (HC.out _ ((Grow.refl _).alloc _)).mono ?_; rintro e w1 ⟨rfl, hb1⟩; have e0 := hb1.sub ⟨wr.heap.size, 0, none⟩ _ (World.cell?_alloc_new wr _ _ 0); simp at e0; have HB1 := Lib.hid hb1; clear hb1)
        go_ret
        exact ⟨ret_int (H1.out tk).symm, (hb.alloc _).trans HB1.out⟩
    · have hn := who_none (l := h.ready) (key := key) (by rw [List.take_of_length_le (by omega)] at hE; exact hE)
      have HN := Lib.hid hn
      clear hel hE hn hkey
      go_wp2
      go_ret
      exact ⟨ret_int HN.out.symm, hb⟩

/-- the cells of a house that lies in a box -/
def hsCells (vl vr vd : Value) (s : Sm) : Array Value := #[vl, .int .i64 s.a, .int .i64 s.b, .int .i64 s.c, .int .i64 s.d, vr, vd]
set_option maxRecDepth 100000 in
set_option maxHeartbeats 1000000 in
theorem free_lit (w : World) (B : Nat) (p : Pt) (h : Hs) (cs : List Value) (hR : Ty.hs.R w.cell? cs h) (hc : At w.cell? B 0 cs) :
    Calls Try.prog 117 #[.agg #[.int .i64 p.h, .int .i64 p.k, .int .i64 p.n], .pointer (some ⟨B, 0, none⟩)] w fun e w' => e = .returned (.bool (decide (0 ≤ whoE h.ready p.k))) ∧ Grow w w' := by
  have hO : Of Ty.hs w.cell? (.agg cs.toArray) h := ⟨cs, rfl, hR⟩
  have hcall := fun (W : World) (hW : Grow w W) => locks_who (key := p.k) W (hO.mono hW.sub)
  obtain ⟨vl, vr, vd, rfl, hl, -, -, -, -, hr, hd⟩ := hR
  obtain ⟨al, cl, rfl, -⟩ := id hl
  obtain ⟨ad, cd, rfl, -⟩ := id hd
  obtain ⟨a, cap, rfl, h1, h2, -, hel⟩ := hr
  have k0 := hc 0 _ rfl
  have k1 := hc 1 _ rfl
  have k2 := hc 2 _ rfl
  have k3 := hc 3 _ rfl
  have k4 := hc 4 _ rfl
  have k5 := hc 5 _ rfl
  have k6 := hc 6 _ rfl
  have hB := World.block_lt_of_cell? w _ k0
  simp only [Nat.zero_add] at k0 k1 k2 k3 k4 k5 k6 hB
  have HC := Lib.hid hcall
  clear hcall hel hl hd hO hc h1 h2
  go_enter Try.func117, Try.ntmps117
  go_wp2_with (go_at_call 31; refine (HC.out _ ((Grow.refl _).alloc _)).mono ?_; rintro e w1 ⟨rfl, hb1⟩)
  go_ret
  exact ⟨rfl, ((Grow.refl w).alloc _).trans hb1⟩
theorem free_tells (w : World) (B : Nat) (h : Hs) (cs : List Value) (hR : Ty.hs.R w.cell? cs h) (hc : At w.cell? B 0 cs) (l : List Pt) : Tells Try.prog Ty.pt aggOf w 117 #[.pointer (some ⟨B, 0, none⟩)] l (fun p => decide (0 ≤ whoE h.ready p.k)) where
  ent := fun args w => by kernel_rfl
  say := by
    rintro wx cs' p hg _ ⟨rfl, _⟩
    exact free_lit wx B p h cs (Ty.hs.mono hg.sub hR) (hc.mono hg.sub)
def freeE (l : List Rd) (ps : List Pt) : Bool := !ps.any fun p => decide (0 ≤ whoE l p.k)
set_option maxRecDepth 100000 in
set_option maxHeartbeats 1000000 in
theorem locks_free {v v' : Value} {h : Hs} {ps : List Pt} (w : World) (hv : Of Ty.hs w.cell? v h) (hv' : Pts w.cell? v' ps) :
    Calls Try.prog 32 #[v, v'] w fun e w' => e = .returned (.bool (freeE h.ready ps)) ∧ Grow w w' := by
  obtain ⟨cs, rfl, hR⟩ := hv
  have hcall := fun (W : World) (B : Nat) (hW : Grow w W) (hc : At W.cell? B 0 cs) => containsFunc_pt W (hv'.mono hW.sub) (free_tells W B h cs (Ty.hs.mono hW.sub hR) hc ps)
  obtain ⟨vl, vr, vd, rfl, hl, -, -, -, -, hr, hd⟩ := hR
  obtain ⟨al, cl, rfl, -⟩ := id hl
  obtain ⟨ad, cd, rfl, -⟩ := id hd
  obtain ⟨a, cap, rfl, h1, h2, -, hel⟩ := hr
  have HC := Lib.hid (hcall (w.alloc (.cells #[.slice al h.log.length cl, .int .i64 h.sums.a, .int .i64 h.sums.b, .int .i64 h.sums.c, .int .i64 h.sums.d, .slice a h.ready.length cap, .slice ad h.done.length cd] 29)) w.heap.size ((Grow.refl w).alloc _) (fun j u hu => by rw [Nat.zero_add, World.cell?_alloc_new]; simpa using hu))
  clear hcall hel hl hd h1 h2
  have hv := hv'
  obtain ⟨ap, cp, rfl, hp1, hp2, hp0, hpel⟩ := hv'
  clear hpel hv hp0 hp1 hp2
  have HF : Hid (freeE h.ready ps = !ps.any fun p => decide (0 ≤ whoE h.ready p.k)) := Lib.hid rfl
  generalize (ps.any fun p => decide (0 ≤ whoE h.ready p.k)) = r at *
  go_enter Try.func32, Try.ntmps32
  go_wp2_with (go_at_call 115; refine HC.out.mono ?_; rintro e w1 ⟨rfl, hb1⟩)
  go_ret
  exact ⟨ret_bool HF.out.symm, ((Grow.refl w).alloc _).trans hb1⟩
end Go.Proofs.Ytgbhpghgohggcaa
