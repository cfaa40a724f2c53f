/- The law LocksOne, walked. -/
import Derived.Test.YtgbhpghgohggcaaA6
import Derived.Test.YtgbhpghgohggcaaN7
namespace Go.Proofs.Ytgbhpghgohggcaa
open Go.RowKit
theorem hear_log {h : Hs} {m : Ms} (hk : ∀ x ∈ h.log, KeysOk x.parts) (hm : KeysOk m.parts) : (∀ x ∈ (hearH h m).log, KeysOk x.parts) ∧ (hearH h m).log.length ≤ h.log.length + 1 := by
  have hn : ∀ r : Rc, KeysOk r.parts → (∀ x ∈ (noteE h r).log, KeysOk x.parts) ∧ (noteE h r).log.length ≤ h.log.length + 1 := by
    intro r hr
    have e : (noteE h r).log = h.log ++ [r] := log_house _
    rw [e]
    refine ⟨fun x hx => ?_, by simp⟩
    rcases List.mem_append.1 hx with hx | hx
    · exact hk x hx
    · rw [List.mem_singleton.1 hx]; exact hr
  have h0 : KeysOk ([] : List Pt) := by intro p hp; simp at hp
  unfold hearH
  split
  · split
    · exact hn _ hm
    · exact ⟨hk, by omega⟩
  · split
    · split
      · exact hn _ h0
      · exact ⟨hk, by omega⟩
    · split
      · split
        · exact hn _ h0
        · exact ⟨hk, by omega⟩
      · exact ⟨hk, by omega⟩
theorem keysOf_take {l : List Rd} {k : Nat} (hlt : k < l.length) : keysOf (l.take (k + 1)) = keysOf (l.take k) ++ l[k].parts.map (·.k) := by
  rw [List.take_succ_eq_append_getElem hlt, keysOf_snoc]
/-- a house of the call's own, in a box -/
structure InBox (wr : World) (B : Nat) (h : Hs) (cs : Array Value) : Prop where
  row : wr.heap[B]? = some (.cells cs 29 (0, 0))
  of : Of Ty.hs (wo B wr.cell?) (.agg cs) h
theorem InBox.cells {wr : World} {B : Nat} {h : Hs} {cs : Array Value} (k : InBox wr B h cs) : ∃ al cl ar cr ad cd, cs = #[.slice al h.log.length cl, .int .i64 h.sums.a, .int .i64 h.sums.b, .int .i64 h.sums.c, .int .i64 h.sums.d, .slice ar h.ready.length cr, .slice ad h.done.length cd] := by
  obtain ⟨al, cl, ar, cr, ad, cd, e⟩ := k.of.hs_form
  exact ⟨al, cl, ar, cr, ad, cd, by simpa using e⟩
theorem InBox.grow {wr w' : World} {B : Nat} {h : Hs} {cs : Array Value} (k : InBox wr B h cs) (hg : Grow wr w') : InBox w' B h cs := ⟨row_grow k.row hg, k.of.mono (wo_mono hg.sub)⟩
/-- a call gave a house, that is stored into the box -/
theorem InBox.put {wr W w1 w2 : World} {B : Nat} {h' : Hs} {cs' : Array Value} (hB : B < wr.heap.size) (hg : Grow wr W) (h1 : Grow W w1) (hof : Of Ty.hs (ov (wo B wr.cell?) W w1) (.agg cs') h') (hr : w2.heap[B]? = some (.cells cs' 29 (0, 0))) (hb : w1.grownBy w2 (some B)) : InBox w2 B h' cs' := by
  refine ⟨hr, hof.mono fun a u e => ?_⟩
  have hs := hg.size
  unfold ov at e
  split at e
  · have hne : a.block ≠ B := by
      intro hx
      unfold wo at e
      rw [if_pos hx] at e; cases e
    have e1 := (hg.trans h1).sub _ _ (wo_sub _ _ _ _ e)
    unfold wo
    rw [if_neg hne, by_cell hb (World.block_lt_of_cell? w1 a e1) hne]
    exact e1
  · have hne : a.block ≠ B := by omega
    unfold wo
    rw [if_neg hne, by_cell hb (World.block_lt_of_cell? w1 a e) hne]
    exact e
set_option maxRecDepth 100000 in
set_option maxHeartbeats 2000000 in
theorem locksOne_walk {v : Value} {ms : List Ms} {key : Int} (w : World) (hv : Sl Ty.ms w.cell? v ms) (hs : ms.length * 48 ≤ 140737488351232) (hkey : I64 key) :
    Calls Try.prog 4 #[v, .int .i64 key] w fun e w' => e = .returned (.bool true) ∧ Grow w w' := by
  have HA := Lib.hid (alive6 w)
  have HK := Lib.hid hkey
  have HS := Lib.hid hs
  obtain ⟨a, cap, rfl, h1, h2, -, hel⟩ := hv
  unfold maxLen at h2
  clear hs hkey
  go_enter Try.func4, Try.ntmps4
  go_wp2_with fail
  refine HA.out.mono ?_
  rintro e w1 ⟨rfl, hb1⟩
  have HB1 := Lib.hid hb1
  have z1 := hb1.size
  clear hb1
  go_wp2
  go_loopw [17] (fun i wr => ∃ (k : Nat) (h : Hs) (cs : Array Value), k ≤ ms.length ∧ i = .int .i64 k ∧ Grow w wr ∧ InBox wr w1.heap.size h cs ∧ Calm h ∧ (∀ x ∈ h.log, KeysOk x.parts) ∧ h.log.length ≤ k) (fun i _ => ms.length - (intOf i).toNat)
  case atStart =>
    refine ⟨0, ⟨[], ⟨0, 0, 0, 0⟩, [], []⟩, _, by omega, rfl, HB1.out.alloc _, ⟨row_new _ _, ⟨_, rfl, _, _, _, rfl, Sl.nil _ _, zero_ok, zero_ok, zero_ok, zero_ok, Sl.nil _ _, Sl.nil _ _⟩⟩, calm_zero, by simp, by simp⟩
  case round =>
    obtain ⟨k, h, cs, hk', rfl, hb, hbox, hcalm, hkeys, hlen⟩ := hrel
    obtain ⟨al, cl, ar, cr, ad, cd, rfl⟩ := hbox.cells
    have HBX := Lib.hid hbox
    have hzB : w1.heap.size < wr.heap.size := (Array.getElem?_eq_some_iff.1 hbox.row).1
    obtain ⟨g0, g1, g2, g3, g4, g5, g6⟩ := cells7 hbox.row
    by_cases hlt : k < ms.length
    · obtain ⟨b, o, vp, rfl, c0, c1, c2, c3, i0, i1, i2, hP⟩ := Mss.at_ hel k hlt
      have hPb := hP
      obtain ⟨ap, cp, rfl, -⟩ := hPb
      replace c0 := hb.sub _ _ c0
      replace c1 := hb.sub _ _ c1
      replace c2 := hb.sub _ _ c2
      replace c3 := hb.sub _ _ c3
      have hlen48 : (h.log.length + 1) * 40 ≤ 140737488355328 := by have := HS.out; omega
      clear hel
      generalize ms[k] = m at *
      have hm0 : Of Ty.ms w.cell? (.agg #[.int .i64 m.kind, .int .i64 m.deed, .int .i64 m.house, .slice ap m.parts.length cp]) m := ⟨_, rfl, _, rfl, i0, i1, i2, hP⟩
      have HWR := Lib.hid (fun (W : World) (hW : Grow wr W) => ref_wrong W (hm0.mono (hb.trans hW).sub))
      by_cases hw : wrongM m = 0
      · by_cases hh : m.house = 0
        · have hR := right_m.1 hw
          have HHR := Lib.hid (fun (W : World) (hW : Grow wr W) => ref_hear (c := wo w1.heap.size wr.cell?) (me := 0) W ((wo_sub _ _).trans hW.sub) hbox.of (hm0.mono ((wo_lt (Sub.refl _) z1).trans (wo_mono hb.sub))) hkeys hR.keys hlen48 zero_ok hcalm.made)
          have HC' := Lib.hid (calm_hear hcalm hR)
          have HL' := Lib.hid (hear_log hkeys hR.keys)
          have hb0 : (wrongM m != 0) = false := by simp [hw]
          have hb2 : (m.house != 0) = false := by simp [hh]
          have HLEN := Lib.hid hlen
          clear hw hh hcalm hkeys hlen48 hbox hm0 hR hP
          generalize hearH h m = h' at *
          generalize wrongM m = wm at *
          go_wp2_with fail
          refine (HWR.out _ ((Grow.refl _).alloc _)).mono ?_
          rintro e w2 ⟨rfl, hb2'⟩
          have HG2 := Lib.hid (((Grow.refl wr).alloc (.cells #[.int .i64 m.kind, .int .i64 m.deed, .int .i64 m.house, .slice ap m.parts.length cp] 39)).trans hb2')
          obtain ⟨cw2, fw2⟩ := bcell hb2'
          have z2 : wr.heap.size < w2.heap.size := by have := hb2'.size; simp at this; omega
          clear hb2'
          go_wp2_with fail
          refine (HHR.out _ HG2.out).mono ?_
          rintro e w3 ⟨v1, v2, rfl, hof, -, hb3⟩
          obtain ⟨al2, cl2, ar2, cr2, ad2, cd2, rfl⟩ := hof.hs_form
          have HOF := Lib.hid hof
          have HB3 := Lib.hid hb3
          clear hof hb3 cw2 fw2
          go_wp2_with (first | (refine wpList_store_row rfl (.tmp 5) (.tmp 33) rfl rfl rfl (row_grow HBX.out.row (HG2.out.trans HB3.out)) info_hs rfl rfl ?_))
          intro w4 r4 g4
          have HX : Hid (InBox w4 w1.heap.size h' _) := Lib.hid (InBox.put hzB HG2.out HB3.out HOF.out r4 g4)
          have HG4 : Hid (Grow w w4) := Lib.hid ((hb.trans (HG2.out.trans HB3.out)).grown g4 (fun k hk => by simp at hk; omega))
          clear r4 g4
          go_wp2
          go_roundw
          case rel => exact ⟨k + 1, h', _, by omega, by go_num, HG4.out, HX.out, HC'.out, HL'.out.1, by have := HL'.out.2; have := HLEN.out; omega⟩
          case measure => simp [intOf]; omega
        · have hb0 : (wrongM m != 0) = false := by simp [hw]
          have hb2 : (m.house != 0) = true := by simp [hh]
          clear hw hh hcalm hkeys hlen48 hbox hm0 hP
          generalize wrongM m = wm at *
          go_wp2_with fail
          refine (HWR.out _ ((Grow.refl _).alloc _)).mono ?_
          rintro e w2 ⟨rfl, hb2'⟩
          have HG2 := Lib.hid (((Grow.refl wr).alloc (.cells #[.int .i64 m.kind, .int .i64 m.deed, .int .i64 m.house, .slice ap m.parts.length cp] 39)).trans hb2')
          obtain ⟨cw2, fw2⟩ := bcell hb2'
          have z2 : wr.heap.size < w2.heap.size := by have := hb2'.size; simp at this; omega
          clear hb2'
          go_wp2
          go_ret
          exact ⟨rfl, hb.trans HG2.out⟩
      · have hb0 : (wrongM m != 0) = true := by simp [hw]
        clear hw hcalm hkeys hlen48 hbox hm0 hP
        generalize wrongM m = wm at *
        go_wp2_with fail
        refine (HWR.out _ ((Grow.refl _).alloc _)).mono ?_
        rintro e w2 ⟨rfl, hb2'⟩
        have HG2 := Lib.hid (((Grow.refl wr).alloc (.cells #[.int .i64 m.kind, .int .i64 m.deed, .int .i64 m.house, .slice ap m.parts.length cp] 39)).trans hb2')
        obtain ⟨cw2, fw2⟩ := bcell hb2'
        have z2 : wr.heap.size < w2.heap.size := by have := hb2'.size; simp at this; omega
        clear hb2'
        go_wp2
        go_ret
        exact ⟨rfl, hb.trans HG2.out⟩
    · clear hel
      have hrd : Sl Ty.rd wr.cell? (.slice ar h.ready.length cr) h.ready := (Of.hs_log (hbox.of.mono (wo_sub _ _))).2.1
      obtain ⟨ar', cr', he, r1, r2, -, hrel'⟩ := hrd
      obtain ⟨rfl, rfl⟩ : ar = ar' ∧ cr = cr' := by simpa using he
      clear he
      unfold maxLen at r2
      have HCALM := Lib.hid hcalm
      clear hcalm hkeys hlen hbox
      go_wp2
      obtain ⟨wv, rfl⟩ : ∃ x : World, x = wr := ⟨_, rfl⟩
      go_loopw [8, 39] (fun s8 i wx => ∃ j : Nat, j ≤ h.ready.length ∧ i = .int .i64 j ∧ s8 = .int .i64 ((keysOf (h.ready.take j)).count key) ∧ Grow wv wx) (fun _ i _ => h.ready.length - (intOf i).toNat)
      case atStart => exact ⟨0, by omega, rfl, rfl, Grow.refl _⟩
      case round =>
        obtain ⟨wx, rfl⟩ : ∃ x : World, x = wr := ⟨_, rfl⟩
        obtain ⟨j, hj', rfl, rfl, hbx⟩ := hrel
        have HGX : Hid (∀ W, Grow wx W → W.cell? ⟨w1.heap.size, 0, none⟩ = some (.slice al h.log.length cl) ∧ W.cell? ⟨w1.heap.size, 1, none⟩ = some (.int .i64 h.sums.a) ∧ W.cell? ⟨w1.heap.size, 2, none⟩ = some (.int .i64 h.sums.b) ∧ W.cell? ⟨w1.heap.size, 3, none⟩ = some (.int .i64 h.sums.c) ∧ W.cell? ⟨w1.heap.size, 4, none⟩ = some (.int .i64 h.sums.d) ∧ W.cell? ⟨w1.heap.size, 5, none⟩ = some (.slice ar h.ready.length cr) ∧ W.cell? ⟨w1.heap.size, 6, none⟩ = some (.slice ad h.done.length cd) ∧ w1.heap.size < W.heap.size) := fun W hW => ⟨(hbx.trans hW).sub _ _ g0, (hbx.trans hW).sub _ _ g1, (hbx.trans hW).sub _ _ g2, (hbx.trans hW).sub _ _ g3, (hbx.trans hW).sub _ _ g4, (hbx.trans hW).sub _ _ g5, (hbx.trans hW).sub _ _ g6, by have := (hbx.trans hW).size; omega⟩
        have HOFX := Lib.hid (fun (W : World) (hW : Grow wx W) => (HBX.out.of.mono (wo_sub _ _)).mono (hbx.trans hW).sub)
        clear g0 g1 g2 g3 g4 g5 g6
        by_cases hlt2 : j < h.ready.length
        · obtain ⟨b2, o2, vp2, rfl, d0, d1, -, hP2⟩ := Rds.at_ hrel' j hlt2
          obtain ⟨ap2, cp2, rfl, p1, p2, -, hpel⟩ := hP2
          unfold maxLen at p2
          replace d0 := hbx.sub _ _ d0
          replace d1 := hbx.sub _ _ d1
          have HTK := Lib.hid (keysOf_take hlt2)
          have HWD : Hid (∀ p ∈ h.ready[j].parts, p.k = key → whoE h.ready key = h.ready[j].deed) := Lib.hid fun p hp e => who_deed HCALM.out.apart _ (List.getElem_mem hlt2) (List.mem_map.2 ⟨p, hp, e⟩)
          have HCB : Hid ((keysOf (h.ready.take j)).count key + (h.ready[j].parts.map (·.k)).count key ≤ 1) := by
            show _ ≤ _
            rw [← List.count_append, ← HTK.out]
            refine Nat.le_trans (List.Sublist.count_le key ?_) (cnt_le HCALM.out key)
            have : h.ready = h.ready.take (j + 1) ++ h.ready.drop (j + 1) := (List.take_append_drop _ _).symm
            conv => rhs; rw [this]
            unfold keysOf
            rw [List.flatMap_append]
            exact List.sublist_append_left _ _
          have HWH := Lib.hid (fun (W : World) (hW : Grow wx W) => locks_who (key := key) W (HOFX.out W hW))
          clear hrel'
          generalize h.ready[j] = r at *
          generalize hc0 : (keysOf (h.ready.take j)).count key = c0 at *
          have HC0 := Lib.hid hc0
          clear hc0
          obtain ⟨g0, g1, g2, g3, g4, g5, g6, gz⟩ := HGX.out wx (Grow.refl _)
          go_wp2
          go_loopw [8, 46] (fun s8 i wy => ∃ q : Nat, q ≤ r.parts.length ∧ i = .int .i64 q ∧ s8 = .int .i64 ((c0 + ((r.parts.take q).map (·.k)).count key : Nat) : Int) ∧ Grow (wx.alloc (.cells #[.int .i64 r.deed, .slice ap2 r.parts.length cp2] 45)) wy) (fun _ i _ => r.parts.length - (intOf i).toNat)
          case atStart => exact ⟨0, by omega, rfl, by simp, Grow.refl _⟩
          case round =>
            obtain ⟨wy, rfl⟩ : ∃ x : World, x = wr := ⟨_, rfl⟩
            obtain ⟨q, hq', rfl, rfl, hby⟩ := hrel
            clear g0 g1 g2 g3 g4 g5 g6 gz
            have x0 := hby.sub ⟨wx.heap.size, 0, none⟩ (.int .i64 r.deed) (by rw [World.cell?_alloc_new]; rfl)
            have xz : wx.heap.size < wy.heap.size := by have := hby.size; simp at this; omega
            have HBY := Lib.hid (((Grow.refl wx).alloc (.cells #[.int .i64 r.deed, .slice ap2 r.parts.length cp2] 45)).trans hby)
            by_cases hlt3 : q < r.parts.length
            · obtain ⟨b3, o3, rfl, e0, e1, e2, -, -, -⟩ := Pts.at_ hpel q hlt3
              replace e0 := HBY.out.sub _ _ (hbx.sub _ _ e0)
              replace e1 := HBY.out.sub _ _ (hbx.sub _ _ e1)
              replace e2 := HBY.out.sub _ _ (hbx.sub _ _ e2)
              have htk : ((r.parts.take (q + 1)).map (·.k)).count key = ((r.parts.take q).map (·.k)).count key + (if r.parts[q].k == key then 1 else 0) := by
                rw [List.take_succ_eq_append_getElem hlt3, List.map_append, List.count_append]
                simp [List.count_cons]
              have hcb : c0 + ((r.parts.take (q + 1)).map (·.k)).count key ≤ 1 := by
                refine Nat.le_trans (Nat.add_le_add_left (List.Sublist.count_le key ((List.take_sublist _ _).map _)) _) HCB.out
              have HTQ := Lib.hid htk
              rw [htk] at hcb
              have HWP : Hid (r.parts[q].k = key → whoE h.ready key = r.deed) := Lib.hid (HWD.out _ (List.getElem_mem hlt3))
              clear hpel htk
              generalize ((r.parts.take q).map (·.k)).count key = c1 at *
              generalize r.parts[q] = p at *
              cases ht : (p.k == key)
              · rw [ht] at hcb HTQ
                have HCC := Lib.hid hcb
                clear hcb
                go_wp2
                go_roundw
                case rel => exact ⟨q + 1, by omega, by go_num, by rw [HTQ.out]; simp, hby.alloc _⟩
                case measure => simp [intOf]; omega
              · rw [ht] at hcb HTQ
                have hwd := HWP.out (by simpa using ht)
                simp only [if_true] at hcb HTQ
                have HWW := Lib.hid (fun (W : World) (hW : Grow wx W) => HWH.out W hW)
                rw [hwd] at HWW
                have HSS : Hid (∀ W, Grow (wy.alloc (.cells #[.int .i64 p.h, .int .i64 p.k, .int .i64 p.n] 32)) W → W.cell? ⟨w1.heap.size, 0, none⟩ = some (.slice al h.log.length cl) ∧ W.cell? ⟨w1.heap.size, 1, none⟩ = some (.int .i64 h.sums.a) ∧ W.cell? ⟨w1.heap.size, 2, none⟩ = some (.int .i64 h.sums.b) ∧ W.cell? ⟨w1.heap.size, 3, none⟩ = some (.int .i64 h.sums.c) ∧ W.cell? ⟨w1.heap.size, 4, none⟩ = some (.int .i64 h.sums.d) ∧ W.cell? ⟨w1.heap.size, 5, none⟩ = some (.slice (some ⟨b2, o2, none⟩) h.ready.length cr) ∧ W.cell? ⟨w1.heap.size, 6, none⟩ = some (.slice ad h.done.length cd) ∧ W.cell? ⟨wx.heap.size, 0, none⟩ = some (.int .i64 r.deed)) := fun W hW => by
                  have hg := HBY.out.trans (((Grow.refl wy).alloc _).trans hW)
                  obtain ⟨g0, g1, g2, g3, g4, g5, g6, -⟩ := HGX.out W hg
                  exact ⟨g0, g1, g2, g3, g4, g5, g6, (((Grow.refl wy).alloc _).trans hW).sub _ _ x0⟩
                have HWV := Lib.hid (fun (W : World) (hW : Grow (wy.alloc (.cells #[.int .i64 p.h, .int .i64 p.k, .int .i64 p.n] 32)) W) => HWW.out W (HBY.out.trans (((Grow.refl wy).alloc _).trans hW)))
                have HCC := Lib.hid hcb
                clear HWW hwd
                go_wp2
                go_region_held3 (fun w' => w'.cell? ⟨w1.heap.size, 0, none⟩ = some (.slice al h.log.length cl) ∧ w'.cell? ⟨w1.heap.size, 1, none⟩ = some (.int .i64 h.sums.a) ∧ w'.cell? ⟨w1.heap.size, 2, none⟩ = some (.int .i64 h.sums.b) ∧ w'.cell? ⟨w1.heap.size, 3, none⟩ = some (.int .i64 h.sums.c) ∧ w'.cell? ⟨w1.heap.size, 4, none⟩ = some (.int .i64 h.sums.d) ∧ w'.cell? ⟨w1.heap.size, 5, none⟩ = some (.slice (some ⟨b2, o2, none⟩) h.ready.length cr) ∧ w'.cell? ⟨w1.heap.size, 6, none⟩ = some (.slice ad h.done.length cd) ∧ w'.cell? ⟨wx.heap.size, 0, none⟩ = some (.int .i64 r.deed)) (first | assumption | exact HSS.out _ (by repeat (first | with_reducible assumption | with_reducible exact Grow.refl _ | with_reducible apply Grow.drewN | with_reducible apply Grow.drew | with_reducible apply Grow.alloc | (refine Grow.trans ?_ (by with_reducible assumption))))) (first | (go_at_call 31; refine (HWV.out _ (by repeat (first | with_reducible assumption | with_reducible exact Grow.refl _ | with_reducible apply Grow.drewN | with_reducible apply Grow.drew | with_reducible apply Grow.alloc | (refine Grow.trans ?_ (by with_reducible assumption))))).mono ?_; rintro e w4 ⟨rfl, hb4⟩))
                go_wp2
                go_roundw
                case rel => exact ⟨q + 1, by omega, by go_num, by rw [HTQ.out]; simp; omega, hby.trans (by repeat (first | with_reducible assumption | with_reducible exact Grow.refl _ | with_reducible apply Grow.drewN | with_reducible apply Grow.drew | with_reducible apply Grow.alloc | (refine Grow.trans ?_ (by with_reducible assumption))))⟩
                case measure => simp [intOf]; omega
            · obtain rfl : q = r.parts.length := by omega
              clear hpel
              go_wp2
              go_roundw
              case rel => exact ⟨j + 1, by omega, by go_num, by rw [HTK.out, List.count_append, HC0.out, List.take_of_length_le (Nat.le_refl _)], hbx.trans HBY.out⟩
              case measure => simp [intOf]; omega
        · have hcnt : (keysOf (h.ready.take j)).count key = cntKey key h.ready := by rw [List.take_of_length_le (by omega)]; rfl
          rw [hcnt]
          have hle := cnt_le HCALM.out key
          have hfr := cnt_free HCALM.out key
          have HFR := Lib.hid (fun (v' : Value) (W : World) (hW : Grow wx W) (hp : Pts W.cell? v' [⟨0, key, 0⟩]) => locks_free W (HOFX.out W hW) hp)
          obtain ⟨g0, g1, g2, g3, g4, g5, g6, gz⟩ := HGX.out wx (Grow.refl _)
          clear hrel' hcnt
          generalize cntKey key h.ready = n at *
          generalize freeE h.ready [⟨0, key, 0⟩] = fr at *
          have HP1 := Lib.hid (pts_one 0 key 0 zero_ok HK.out zero_ok wx)
          have hn : n = 0 ∨ n = 1 := by omega
          rcases hn with rfl | rfl
          · obtain rfl : fr = true := by simpa using hfr
            clear hle hfr
            go_wp2_with fail
            refine (HFR.out _ _ ((Grow.refl _).alloc _) (HP1.out _ _ (Grow.refl _))).mono ?_
            rintro e w4 ⟨rfl, hb4⟩
            go_wp2
            go_ret
            exact ⟨rfl, hb.trans (hbx.trans (((Grow.refl _).alloc _).trans hb4))⟩
          · obtain rfl : fr = false := by simpa using hfr
            clear hle hfr
            go_wp2_with fail
            refine (HFR.out _ _ ((Grow.refl _).alloc _) (HP1.out _ _ (Grow.refl _))).mono ?_
            rintro e w4 ⟨rfl, hb4⟩
            go_wp2
            go_ret
            exact ⟨rfl, hb.trans (hbx.trans (((Grow.refl _).alloc _).trans hb4))⟩
end Go.Proofs.Ytgbhpghgohggcaa
