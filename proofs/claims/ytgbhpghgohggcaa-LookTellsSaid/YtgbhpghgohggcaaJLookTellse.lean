/- The parts that LookTells is proved of, joined: U22, U14, U23, C4, U20, U11n, U25, U26, U27, U28, U29, U30, K22, Trod, Trod2, Trod3. No condition beside those that each theorem names. -/
import Derived.Lib.SlicesCompact
import Derived.Shelf.Slices.In.SortNone
import Derived.Deep.Slices
import Derived.OpenShut
import Derived.Below
import Derived.ChangeOld
import Derived.ProofKit
import Derived.SizedLaws
import Derived.Test.YtgbhpghgohggcaaJLookTellsd
namespace Go.Proofs.Ytgbhpghgohggcaa
open Go.RowKit
def dm (c : CM) (w W : World) : CM := wk w.heap.size 3 (ov c w W)
theorem dm_in {c : CM} {w W : World} (hc : Sub c w.cell?) : Sub c (dm c w W) := wk_in hc 3
theorem dm_sub {c : CM} {w W : World} (hc : Sub c w.cell?) (hg : Grow w W) : Sub (dm c w W) W.cell? := wk_ov hc hg 3
theorem dm_end (c : CM) (w W : World) : Sub (dm c w W) (ov c w W) := wk_sub _ _ _
theorem dm_new {c : CM} {w W : World} {a : Addr} (h : w.heap.size + 3 ≤ a.block) : dm c w W a = W.cell? a := wk_new h
theorem dm_step {c : CM} {w W W' : World} (h : ∀ a v, w.heap.size + 3 ≤ a.block → W.cell? a = some v → W'.cell? a = some v) : Sub (dm c w W) (dm c w W') := fun a v e => by
 unfold dm wk ov at e ⊢
 split at e
 ·cases e
 ·rename_i hn
  rw [if_neg hn]
  split at e
  ·rw [if_pos ‹_›]; exact e
  ·rw [if_neg ‹_›]; exact h a v (by omega) e
theorem dm_grow {c : CM} {w W W' : World} (h : Grow W W') : Sub (dm c w W) (dm c w W') := dm_step fun a v _ e => h.sub a v e
theorem dm_box {c : CM} {w W W' : World} {b : Nat} (hg : W.grownBy W' (some b)) (hb : b < w.heap.size + 3) : Sub (dm c w W) (dm c w W') := dm_step fun a v hl e => cell_past e hg (by omega)
theorem dm_past {c : CM} {w w6 W w7 w8 : World} (g6 : Grow w6 w8) (h : ∀ a v, W.heap.size ≤ a.block → w7.cell? a = some v → w8.cell? a = some v) (hk : w.heap.size + 3 ≤ W.heap.size) : Sub (ov (dm c w w6) W w7) (dm c w w8) := fun a v e => by
 unfold ov at e
 split at e
 ·exact dm_grow g6 a v e
 ·rw [dm_new (by omega)]; exact h a v (by omega) e
theorem ms_keys {m : Ms} (h : RightM m) : KeysOk m.parts := by
 by_cases hk : m.kind = 1
 ·exact wrong_keys (h.parts hk).1
 ·rw [h.none hk]; intro p hp; simp at hp
theorem dm_none {c : CM} {w W W1 : World} (hk : w.heap.size + 3 ≤ W.heap.size) : Sub (ov (fun _ => none) W W1) (dm c w W1) := fun a v e => by
 unfold ov at e
 split at e
 ·cases e
 ·rw [dm_new (by omega)]; exact e
theorem forHouse_iff {m : Ms} : forHouse m = decide (m.kind = 1 ∨ m.kind = 4 ∨ m.kind = 5) := rfl
theorem come_house {w : AW} {m : Ms} {h : Hs} (e : w.houses[m.house.toNat]? = some h) (f : forHouse m = true) : comeA w m = { w with houses := w.houses.set m.house.toNat (hearH h m), net := sendA w.net (hearM h m.house m) } := by unfold comeA; rw [e]; simp only; rw [if_pos f]
theorem come_head {w : AW} {m : Ms} {h : Hs} (e : w.houses[m.house.toNat]? = some h) (f : forHouse m = false) : comeA w m = { w with head := hHearH w.head m, net := sendA w.net (hHearM w.head m) } := by unfold comeA; rw [e]; simp only; rw [if_neg (by rw [f]; simp)]
set_option maxRecDepth 100000 in
set_option maxHeartbeats 4000000 in
theorem ref_do_come {c : CM} {v vs : Value} {x : AW} {sn : Int} {sp : List Pt} {n : Nat} {G : Reg} {k : Nat} (w : World) (hc : Sub c w.cell?) (hv : Of Ty.wd c v x) (hs : Of Ty.st c vs ⟨2, sn, sp⟩) (hi : WI n G x) (hf : Few k x) (hk : k ≤ 1000) (ht : there x sn = true) :
  Calls Try.prog 138 #[v, vs] w fun e w' => ∃ v', e = .returned (.tuple #[v', .int .i64 (doErr x ⟨2, sn, sp⟩)]) ∧ Of Ty.wd (ov c w w') v' (doA x ⟨2, sn, sp⟩) ∧ Grow w w' := by
 obtain ⟨al, cl, ao, co, ah, ch, an, cn, rfl⟩ := hv.wd_form
 obtain ⟨ap, cp, rfl⟩ := hs.st_form
 obtain ⟨q1, q2, q3⟩ := hv.wd_parts
 have HQ1 := Lib.hid q1
 have HQ2 := Lib.hid q2
 have HQ3 := Lib.hid q3
 have HSP := Lib.hid hs.st_parts
 have HHD := Lib.hid (hi.hdok hf hk)
 have HWI := Lib.hid hi
 have HV := Lib.hid hv
 have HC := Lib.hid hc
 have HT := Lib.hid ht
 have HFW := Lib.hid hf
 clear hc hv hs q1 q2 q3 hi hf
 obtain ⟨wa, hwa⟩ : ∃ y : World, y = w.alloc (.cells #[.slice al x.head.log.length cl, .int .i64 x.head.boot, .int .i64 x.head.next, .slice ao x.head.opn.length co, .slice ah x.houses.length ch, .slice an x.net.length cn] 93) := ⟨_, rfl⟩
 obtain ⟨wb, hwb⟩ : ∃ y : World, y = wa.alloc (.cells #[.int .i64 2, .int .i64 sn, .slice ap sp.length cp] 164) := ⟨_, rfl⟩
 obtain ⟨wz, hwz⟩ : ∃ y : World, y = wb.alloc (.cells #[.slice none 0 0, .int .i64 0, .int .i64 0, .slice none 0 0, .slice none 0 0, .slice none 0 0] 93) := ⟨_, rfl⟩
 have hsa : wa.heap.size = w.heap.size + 1 := by rw [hwa]; simp
 have hsb : wb.heap.size = w.heap.size + 2 := by rw [hwb]; simp [hsa]
 have R2 : Hid (wz.heap[w.heap.size]? = some (.cells #[.slice al x.head.log.length cl, .int .i64 x.head.boot, .int .i64 x.head.next, .slice ao x.head.opn.length co, .slice ah x.houses.length ch, .slice an x.net.length cn] 93 (0, 0))) := Lib.hid (by rw [hwz, hwb, hwa]; exact heap_later (heap_later (row_new _ _) _) _)
 have R3 : Hid (wz.heap[w.heap.size + 1]? = some (.cells #[.int .i64 2, .int .i64 sn, .slice ap sp.length cp] 164 (0, 0))) := Lib.hid (by rw [hwz, hwb, ← hsa]; exact heap_later (row_new _ _) _)
 have R4 : Hid (wz.heap[w.heap.size + 2]? = some (.cells #[.slice none 0 0, .int .i64 0, .int .i64 0, .slice none 0 0, .slice none 0 0, .slice none 0 0] 93 (0, 0))) := Lib.hid (by rw [hwz, ← hsb]; exact row_new _ _)
 have G1 : Hid (Grow w wz) := Lib.hid (by rw [hwz, hwb, hwa]; exact (((Grow.refl w).alloc _).alloc _).alloc _)
 have HZ : Hid (wz.heap.size = w.heap.size + 3) := Lib.hid (by rw [hwz]; simp [hsb])
 go_enter Try.func138, Try.ntmps138
 go_upto_region 1 with fail
 rw [← hwa]
 try rw [hsa]
 rw [← hwb]
 try rw [hsb]
 rw [← hwz]
 clear hwa hwb hwz hsa hsb
 obtain ⟨c0, c1, c2, c3, c4, c5⟩ := cells6 R2.out
 obtain ⟨d0, d1, d2⟩ := cells3 R3.out
 have z2 : w.heap.size < wz.heap.size := (Array.getElem?_eq_some_iff.1 R2.out).1
 have z3 : w.heap.size + 1 < wz.heap.size := (Array.getElem?_eq_some_iff.1 R3.out).1
 go_cut [6] from 22 (fun s6 wc => s6 = .bool (there x sn) ∧ wz = wc)
 case first =>
  by_cases h0 : 0 ≤ sn
  ·by_cases h1 : sn < (x.net.length : Int)
   ·go_wp2
    go_meet
    case rel => exact ⟨by first | rfl | (simp [there, h0, h1]; done), rfl⟩
   ·go_wp2
    go_meet
    case rel => exact ⟨by first | rfl | (simp [there, h0, h1]; done) | (simp [there, h0]; omega), rfl⟩
  ·go_wp2
   go_meet
   case rel => exact ⟨by first | rfl | (simp [there]; done) | (simp [there]; omega), rfl⟩
 case rest =>
 obtain ⟨rfl, rfl⟩ := hcut
 obtain ⟨h0, h1⟩ : 0 ≤ sn ∧ sn < (x.net.length : Int) := of_decide_eq_true HT.out
 have HE2 : Hid (doErr x ⟨2, sn, sp⟩ = 0) := Lib.hid (by unfold doErr; simp [ht])
 have HE0 : Hid (doA x ⟨2, sn, sp⟩ = comeA { x with net := x.net.eraseIdx sn.toNat } (x.net.getD sn.toNat ⟨0, 0, 0, []⟩)) := Lib.hid (by unfold doA; simp [ht])
 rw [ht]
 obtain ⟨i, hi⟩ : ∃ i : Nat, sn = (i : Int) := ⟨sn.toNat, by omega⟩
 have hil : i < x.net.length := by omega
 have hti : sn.toNat = i := by omega
 have hq3 := HQ3.out
 obtain ⟨an', cn', he9, hcc, -, -, hel⟩ := hq3
 simp only [Value.slice.injEq] at he9
 obtain ⟨rfl, -, rfl⟩ := he9
 rw [List.length_map] at hcc
 obtain ⟨bb, o, u, rfl, ci, hbi⟩ := Nts.at_ hel i (by simpa using hil)
 obtain ⟨au, cu, rfl, -⟩ := id hbi
 have HMI : Hid ((x.net.map bytesM)[i]'(by simpa using hil) = bytesM x.net[i]) := Lib.hid (by rw [List.getElem_map])
 rw [HMI.out] at hbi ci
 have HRD := Lib.hid (fun (W : World) (hW : Grow w W) => ref_readN W (hbi.mono (HC.out.trans hW.sub)))
 have HRB := Lib.hid (read_bytes (HWI.out.right _ (List.getElem_mem hil)))
 rw [HRB.out] at HRD
 have H24 := Lib.hid HWI.out.len
 have HN3 : Hid (Nts c (.slice (some ⟨bb, o, none⟩) x.net.length cn) (x.net.map bytesM)) := Lib.hid HQ3.out
 rw [hti] at HE0
 have HGD : Hid (x.net.getD i ⟨0, 0, 0, []⟩ = x.net[i]) := Lib.hid (by rw [List.getD_eq_getElem?_getD, List.getElem?_eq_getElem hil]; rfl)
 rw [HGD.out] at HE0
 have HMO : Hid (MOk n G x.head x.houses x.net[i]) := Lib.hid (HWI.out.net _ (List.getElem_mem hil))
 clear HGD
 have HSI : Hid (sn = (i : Int)) := Lib.hid hi
 replace ci := (HC.out.trans G1.out.sub) _ _ ci
 clear hel hbi ht HT HRB HMI
 generalize x.net[i] = m at *
 have hi0 : (0 : Int) ≤ sn := by omega
 have hi9 : sn < (x.net.length : Int) := by omega
 subst hi
 go_upto_region 21 with fail
 clear c0 c1 c2 c3 c4 c5 d0 d1 d2 ci z2 z3
 have hll : (x.net.map bytesM).length = x.net.length := List.length_map _
 have HTK := Lib.hid (HN3.out.take' i (by omega))
 have HDR0 := Lib.hid (HN3.out.drop (i + 1) (by omega))
 have HEM := Lib.hid (erase_map x.net i)
 have HLE : Hid ((x.net.eraseIdx i).length = i + (x.net.length - (i + 1))) := Lib.hid (by rw [List.length_eraseIdx, if_pos hil]; omega)
 have hii : IntKind.i64.wrap ((i : Int) + 1) = (i : Int) + 1 := IntWalk.i64_in _ (by have := H24.out; omega)
 have hi2 : (0 : Int) ≤ (i : Int) + 1 := by omega
 have hi3 : (i : Int) + 1 ≤ (x.net.length : Int) := by omega
 have hi4 : ((i : Int) + 1).toNat = i + 1 := by omega
 have hi5 : (i : Int) ≤ (cn : Int) := by omega
 have hi7 : (x.net.length : Int) ≤ (cn : Int) := by omega
 have HS : Hid (∀ W, Grow wz W → W.cell? ⟨w.heap.size, 5, none⟩ = some (.slice (some ⟨bb, o, none⟩) x.net.length cn) ∧ W.cell? ⟨w.heap.size + 1, 1, none⟩ = some (.int .i64 i)) := fun W hW => by
  obtain ⟨-, -, -, -, -, j5⟩ := cells6 (row_grow R2.out hW)
  obtain ⟨-, f1, -⟩ := cells3 (row_grow R3.out hW)
  exact ⟨j5, f1⟩
 go_cut [11] from 95 (fun s11 wc => s11 = .slice au (bytesM m).length cu ∧ ∃ a9 n9 c9, wc.heap[w.heap.size]? = some (.cells #[.slice al x.head.log.length cl, .int .i64 x.head.boot, .int .i64 x.head.next, .slice ao x.head.opn.length co, .slice ah x.houses.length ch, .slice a9 n9 c9] 93 (0, 0)) ∧ wc.heap[w.heap.size + 1]? = some (.cells #[.int .i64 2, .int .i64 i, .slice ap sp.length cp] 164 (0, 0)) ∧ wc.heap[w.heap.size + 2]? = some (.cells #[.slice none 0 0, .int .i64 0, .int .i64 0, .slice none 0 0, .slice none 0 0, .slice none 0 0] 93 (0, 0)) ∧ OwnC Ty.bs c wc (w.heap.size + 3) 69 (.slice a9 n9 c9) ((x.net.eraseIdx i).map bytesM) ∧ Grow w wc)
 case first =>
  by_cases hcap : cn = i + 1
  ·have HDR : Hid (Sl Ty.bs c (.slice (some ⟨bb, o, none⟩) 0 0) ((x.net.map bytesM).drop (i + 1))) := Lib.hid (Sl.none' _ _ _ (List.drop_eq_nil_of_le (by omega)))
   obtain rfl := hcap
   have hi5b : (i : Int) ≤ (i : Int) + 1 := by omega
   refine but_start (fun w' => w'.cell? ⟨w.heap.size, 5, none⟩ = some (.slice (some ⟨bb, o, none⟩) x.net.length (i + 1)) ∧ w'.cell? ⟨w.heap.size + 1, 1, none⟩ = some (.int .i64 i)) 15 (by kernel_rfl) ?_
   obtain ⟨wd, hWd⟩ : ∃ x : World, x = wz.drew := ⟨_, rfl⟩
   rw [← hWd]
   have GD : Grow wz wd := by rw [hWd]; exact (Grow.refl _).drew
   have zD : wz.heap.size = wd.heap.size := by rw [hWd]; rfl
   have ZD := Lib.hid zD
   clear hWd zD
   refine bLm [1, 2, 3, 4, 5, 7, 8, 9, 10, 11, 12] 20 (by kernel_rfl) (fun _ _ _ _ _ h => h) (HS.out _ GD) ?_
   repeat (refine tNm (v := ?_) rfl (by rfl) ?_ ?_; rotate_left; (· (intro w' hSw; (try dsimp only at hSw); obtain ⟨hs0, hs1⟩ := hSw; go_simp <;> with_reducible rfl)); try simp only [Act.put, lzA, lzB, lzC, lzD, lzE, lzF])
   refine tEm ?_
   refine bO 0 (by kernel_rfl) rfl ?_
   intro K HK
   try simp only [lzA, lzC]
   go_simp
   obtain ⟨w7, hw7⟩ : ∃ y : World, y = wd.alloc (.cells #[] 69) := ⟨_, rfl⟩
   have HO7 : Hid (OwnC Ty.bs c w7 (w.heap.size + 3) 69 (.slice (some ⟨wd.heap.size, 0, none⟩) 0 0) []) := Lib.hid (by rw [hw7]; exact OwnC.made0 Ty.bs _ _ _ _ (by have := ZD.out; have := HZ.out; omega) rfl)
   have HG7 : Hid (Grow wz w7) := Lib.hid (by rw [hw7]; exact GD.alloc _)
   rw [← hw7]
   clear hw7
   refine HK.out _ _ ⟨fun _ => HS.out _ HG7.out, ?_⟩
   clear HK K
   try simp only [Act.put, lzA, lzB, lzC, lzD, lzE, lzF]
   refine bO 6 (by kernel_rfl) rfl ?_
   intro K HK
   refine wanted_go rfl ?_
   try simp only [lzA, lzB, lzC]
   refine wp_appv (c := c) (base := w.heap.size + 3) (l := []) (m := (x.net.map bytesM).take i) (k := (x.net.map bytesM).take i) (v := .slice (some ⟨wd.heap.size, 0, none⟩) 0 0) ei_bts rfl (one_Tsl Ty.byte) (by decide) (.tmp 95) (.tmp 100) rfl (List.nil_append _) rfl HO7.out rfl (Src.of_sl_c (by decide) (HC.out.trans (G1.out.trans HG7.out).sub) HTK.out) (by have := H24.out; rw [List.length_take]; simp; omega) (by have := HG7.out.size; have := HZ.out; omega) ?_
   intro a8 n8 c8 w8 hn8 ho8 hg8 hb8
   have HO8 := Lib.hid ho8
   have HG8 := Lib.hid (grow_by (w0 := wz) HG7.out hg8 (fun q hq => by have := (HO7.out.lt q hq).1; have := HZ.out; omega))
   clear hn8 ho8 hg8 hb8
   refine HK.out _ _ ⟨fun _ => HS.out _ HG8.out, ?_⟩
   clear HK K
   try simp only [Act.put, lzD, lzE, lzF]
   refine bO 13 (by kernel_rfl) rfl ?_
   intro K HK
   refine wanted_go rfl ?_
   try simp only [lzA, lzB, lzC]
   refine wp_appv (c := c) (base := w.heap.size + 3) (l := (x.net.map bytesM).take i) (m := (x.net.map bytesM).drop (i + 1)) (k := (x.net.eraseIdx i).map bytesM) (v := .slice a8 n8 c8) ei_bts rfl (one_Tsl Ty.byte) (by decide) (.tmp 101) (.tmp 107) rfl HEM.out rfl HO8.out rfl (Src.of_sl_c (by decide) (HC.out.trans (G1.out.trans HG8.out).sub) ?srcd) (by have := H24.out; rw [List.length_take, List.length_drop, List.length_map]; omega) (by have := HG8.out.size; have := HZ.out; omega) ?_
   case srcd => exact HDR.out
   intro a9 n9 c9 w9 hn9 ho9 hg9 hb9
   have HO9 := Lib.hid ho9
   have HG9 := Lib.hid (grow_by (w0 := wz) HG8.out hg9 (fun q hq => by have := (HO8.out.lt q hq).1; have := HZ.out; omega))
   clear hn9 ho9 hg9 hb9
   refine HK.out _ _ ⟨fun _ => HS.out _ HG9.out, ?_⟩
   clear HK K
   try simp only [Act.put, lzD, lzE, lzF]
   refine bO 14 (by kernel_rfl) rfl ?_
   intro K HK
   try simp only [lzA, lzB, lzC]
   go_simp
   refine HK.out _ _ ⟨fun _ => HS.out _ HG9.out, ?_⟩
   clear HK K
   try simp only [Act.put, lzA, lzB, lzC, lzD, lzE, lzF]
   refine bO 15 (by kernel_rfl) rfl ?_
   intro K HK
   refine wanted_go rfl ?_
   try simp only [lzA, lzB, lzC]
   refine wp_store_cell (.tmp 109) (.tmp 108) (v := .slice a9 n9 c9) (new := #[.slice al x.head.log.length cl, .int .i64 x.head.boot, .int .i64 x.head.next, .slice ao x.head.opn.length co, .slice ah x.houses.length ch, .slice a9 n9 c9]) rfl rfl (by rfl) (by rfl) (row_grow R2.out HG9.out) info_nets (by simp) (by rfl) (by rfl) ?_
   intro w5 r5 g5
   refine HK.out _ _ ⟨fun h => absurd rfl h, ?_⟩
   clear HK K
   try simp only [Act.put]
   refine but_done (by kernel_rfl) ?_
   go_wp2
   go_meet
   case rel => exact ⟨rfl, a9, n9, c9, r5, row_by (row_grow R3.out HG9.out) g5 (by intro e; have := Option.some.inj e; omega), row_by (row_grow R4.out HG9.out) g5 (by intro e; have := Option.some.inj e; omega), HO9.out.kept g5 (own_apart HO9.out (by omega)), (G1.out.trans HG9.out).grown g5 (fun q hq => by simp at hq; omega)⟩
  ·have HDR : Hid (Sl Ty.bs c (.slice (some ⟨bb, o + (i + 1), none⟩) (x.net.length - (i + 1)) (cn - (i + 1))) ((x.net.map bytesM).drop (i + 1))) := Lib.hid (by simpa [show Ty.bs.size = 1 from rfl] using HDR0.out)
   refine but_start (fun w' => w'.cell? ⟨w.heap.size, 5, none⟩ = some (.slice (some ⟨bb, o, none⟩) x.net.length cn) ∧ w'.cell? ⟨w.heap.size + 1, 1, none⟩ = some (.int .i64 i)) 15 (by kernel_rfl) ?_
   obtain ⟨wd, hWd⟩ : ∃ x : World, x = wz.drew := ⟨_, rfl⟩
   rw [← hWd]
   have GD : Grow wz wd := by rw [hWd]; exact (Grow.refl _).drew
   have zD : wz.heap.size = wd.heap.size := by rw [hWd]; rfl
   have ZD := Lib.hid zD
   clear hWd zD
   refine bLm [1, 2, 3, 4, 5, 7, 8, 9, 10, 11, 12] 20 (by kernel_rfl) (fun _ _ _ _ _ h => h) (HS.out _ GD) ?_
   repeat (refine tNm (v := ?_) rfl (by rfl) ?_ ?_; rotate_left; (· (intro w' hSw; (try dsimp only at hSw); obtain ⟨hs0, hs1⟩ := hSw; go_simp <;> with_reducible rfl)); try simp only [Act.put, lzA, lzB, lzC, lzD, lzE, lzF])
   refine tEm ?_
   refine bO 0 (by kernel_rfl) rfl ?_
   intro K HK
   try simp only [lzA, lzC]
   go_simp
   obtain ⟨w7, hw7⟩ : ∃ y : World, y = wd.alloc (.cells #[] 69) := ⟨_, rfl⟩
   have HO7 : Hid (OwnC Ty.bs c w7 (w.heap.size + 3) 69 (.slice (some ⟨wd.heap.size, 0, none⟩) 0 0) []) := Lib.hid (by rw [hw7]; exact OwnC.made0 Ty.bs _ _ _ _ (by have := ZD.out; have := HZ.out; omega) rfl)
   have HG7 : Hid (Grow wz w7) := Lib.hid (by rw [hw7]; exact GD.alloc _)
   rw [← hw7]
   clear hw7
   refine HK.out _ _ ⟨fun _ => HS.out _ HG7.out, ?_⟩
   clear HK K
   try simp only [Act.put, lzA, lzB, lzC, lzD, lzE, lzF]
   refine bO 6 (by kernel_rfl) rfl ?_
   intro K HK
   refine wanted_go rfl ?_
   try simp only [lzA, lzB, lzC]
   refine wp_appv (c := c) (base := w.heap.size + 3) (l := []) (m := (x.net.map bytesM).take i) (k := (x.net.map bytesM).take i) (v := .slice (some ⟨wd.heap.size, 0, none⟩) 0 0) ei_bts rfl (one_Tsl Ty.byte) (by decide) (.tmp 95) (.tmp 100) rfl (List.nil_append _) rfl HO7.out rfl (Src.of_sl_c (by decide) (HC.out.trans (G1.out.trans HG7.out).sub) HTK.out) (by have := H24.out; rw [List.length_take]; simp; omega) (by have := HG7.out.size; have := HZ.out; omega) ?_
   intro a8 n8 c8 w8 hn8 ho8 hg8 hb8
   have HO8 := Lib.hid ho8
   have HG8 := Lib.hid (grow_by (w0 := wz) HG7.out hg8 (fun q hq => by have := (HO7.out.lt q hq).1; have := HZ.out; omega))
   clear hn8 ho8 hg8 hb8
   refine HK.out _ _ ⟨fun _ => HS.out _ HG8.out, ?_⟩
   clear HK K
   try simp only [Act.put, lzD, lzE, lzF]
   refine bO 13 (by kernel_rfl) rfl ?_
   intro K HK
   refine wanted_go rfl ?_
   try simp only [lzA, lzB, lzC]
   refine wp_appv (c := c) (base := w.heap.size + 3) (l := (x.net.map bytesM).take i) (m := (x.net.map bytesM).drop (i + 1)) (k := (x.net.eraseIdx i).map bytesM) (v := .slice a8 n8 c8) ei_bts rfl (one_Tsl Ty.byte) (by decide) (.tmp 101) (.tmp 107) rfl HEM.out rfl HO8.out rfl (Src.of_sl_c (by decide) (HC.out.trans (G1.out.trans HG8.out).sub) ?srcd) (by have := H24.out; rw [List.length_take, List.length_drop, List.length_map]; omega) (by have := HG8.out.size; have := HZ.out; omega) ?_
   case srcd => exact HDR.out
   intro a9 n9 c9 w9 hn9 ho9 hg9 hb9
   have HO9 := Lib.hid ho9
   have HG9 := Lib.hid (grow_by (w0 := wz) HG8.out hg9 (fun q hq => by have := (HO8.out.lt q hq).1; have := HZ.out; omega))
   clear hn9 ho9 hg9 hb9
   refine HK.out _ _ ⟨fun _ => HS.out _ HG9.out, ?_⟩
   clear HK K
   try simp only [Act.put, lzD, lzE, lzF]
   refine bO 14 (by kernel_rfl) rfl ?_
   intro K HK
   try simp only [lzA, lzB, lzC]
   go_simp
   refine HK.out _ _ ⟨fun _ => HS.out _ HG9.out, ?_⟩
   clear HK K
   try simp only [Act.put, lzA, lzB, lzC, lzD, lzE, lzF]
   refine bO 15 (by kernel_rfl) rfl ?_
   intro K HK
   refine wanted_go rfl ?_
   try simp only [lzA, lzB, lzC]
   refine wp_store_cell (.tmp 109) (.tmp 108) (v := .slice a9 n9 c9) (new := #[.slice al x.head.log.length cl, .int .i64 x.head.boot, .int .i64 x.head.next, .slice ao x.head.opn.length co, .slice ah x.houses.length ch, .slice a9 n9 c9]) rfl rfl (by rfl) (by rfl) (row_grow R2.out HG9.out) info_nets (by simp) (by rfl) (by rfl) ?_
   intro w5 r5 g5
   refine HK.out _ _ ⟨fun h => absurd rfl h, ?_⟩
   clear HK K
   try simp only [Act.put]
   refine but_done (by kernel_rfl) ?_
   go_wp2
   go_meet
   case rel => exact ⟨rfl, a9, n9, c9, r5, row_by (row_grow R3.out HG9.out) g5 (by intro e; have := Option.some.inj e; omega), row_by (row_grow R4.out HG9.out) g5 (by intro e; have := Option.some.inj e; omega), HO9.out.kept g5 (own_apart HO9.out (by omega)), (G1.out.trans HG9.out).grown g5 (fun q hq => by simp at hq; omega)⟩
 case rest =>
 obtain ⟨rfl, a9, n9, c9, r9, r3, r4, ho9, hgw⟩ := hcut
 have R29 := Lib.hid r9
 have R39 := Lib.hid r3
 have R49 := Lib.hid r4
 have HO9 := Lib.hid ho9
 have GW9 := Lib.hid hgw
 obtain ⟨w9, rfl⟩ : ∃ y : World, y = wc := ⟨_, rfl⟩
 clear r9 r3 r4 ho9 hgw HS HTK HDR0 hii hi2 hi3 hi4 hi5 hi7
 go_wp2_with fail
 refine (HRD.out _ GW9.out).mono ?_
 rintro e w5 ⟨v5, rfl, hx5, hb5⟩
 have HNN := Lib.hid HWI.out.core.len
 have HN3' := Lib.hid HWI.out.core.n3
 have HRM := Lib.hid HMO.out.right
 obtain ⟨j, hj⟩ : ∃ j : Nat, m.house = (j : Int) := ⟨m.house.toNat, by have := HRM.out.house; omega⟩
 have hjn : j < x.houses.length := by have := HMO.out.here; have := HNN.out; omega
 have hj3 : x.houses.length ≤ 3 := by have := HNN.out; have := HN3'.out; omega
 have HMI : Hid (I64 m.kind ∧ I64 m.deed ∧ I64 m.house) := Lib.hid (by obtain ⟨cs, he, vp, rfl, i0, i1, i2, -⟩ := hx5; exact ⟨i0, i1, i2⟩)
 obtain ⟨ap5, cp5, rfl⟩ := hx5.ms_form
 have HMJ : Hid (m.house = (j : Int)) := Lib.hid hj
 have HXM := Lib.hid hx5
 rw [hj] at HXM ⊢
 have G5 := Lib.hid (GW9.out.trans hb5)
 have HZ9 : Hid (w.heap.size + 3 ≤ w9.heap.size) := Lib.hid (by have := (Array.getElem?_eq_some_iff.1 R49.out).1; omega)
 have GB5 := Lib.hid hb5
 have R25 := Lib.hid (row_grow R29.out hb5)
 have R35 := Lib.hid (row_grow R39.out hb5)
 have R45 := Lib.hid (row_grow R49.out hb5)
 have HO5 := Lib.hid (HO9.out.grow hb5)
 clear hx5 hb5 hj
 obtain ⟨c0, c1, c2, c3, c4, c5⟩ := cells6 R25.out
 obtain ⟨d0, d1, d2⟩ := cells3 R35.out
 have z2 : w.heap.size < w5.heap.size := (Array.getElem?_eq_some_iff.1 R25.out).1
 have z3 : w.heap.size + 1 < w5.heap.size := (Array.getElem?_eq_some_iff.1 R35.out).1
 go_upto_region 23 with fail
 obtain ⟨w6, hw6⟩ : ∃ y : World, y = w5.alloc (.cells #[.int .i64 m.kind, .int .i64 m.deed, .int .i64 (j : Int), .slice ap5 m.parts.length cp5] 39) := ⟨_, rfl⟩
 have G56 : Hid (Grow w5 w6) := Lib.hid (by rw [hw6]; exact (Grow.refl _).alloc _)
 obtain ⟨BM, hBM⟩ : ∃ y, y = w5.heap.size := ⟨_, rfl⟩
 have RM6 : Hid (w6.heap[BM]? = some (.cells #[.int .i64 m.kind, .int .i64 m.deed, .int .i64 (j : Int), .slice ap5 m.parts.length cp5] 39 (0, 0))) := Lib.hid (by rw [hw6, hBM]; exact row_new _ _)
 have HBM : Hid (w.heap.size + 3 ≤ BM) := Lib.hid (by have := HZ9.out; have := GB5.out.size; omega)
 rw [← hw6, ← hBM]
 clear hw6 hBM c0 c1 c2 c3 c4 c5 d0 d1 d2 z2 z3
 have R26 := Lib.hid (row_grow R25.out G56.out)
 have R36 := Lib.hid (row_grow R35.out G56.out)
 have R46 := Lib.hid (row_grow R45.out G56.out)
 have HO6 := Lib.hid (HO5.out.grow G56.out)
 have G6 := Lib.hid (G5.out.trans G56.out)
 have HM6 : Hid (Of Ty.ms (dm c w w6) (.agg #[.int .i64 m.kind, .int .i64 m.deed, .int .i64 (j : Int), .slice ap5 m.parts.length cp5]) m) := Lib.hid (HXM.out.mono ((dm_none HZ9.out).trans (dm_grow G56.out)))
 have HN6 : Hid (Nts (dm c w w6) (.slice a9 n9 c9) ((x.net.eraseIdx i).map bytesM)) := Lib.hid (HO6.out.slc (by decide) (dm_in HC.out) fun a9 ha9 => dm_new (by omega))
 have HW6 : Hid (w.heap.size + 3 ≤ w6.heap.size) := Lib.hid (by have := HBM.out; have := (Array.getElem?_eq_some_iff.1 RM6.out).1; omega)
 have HLE : Hid ((x.net.eraseIdx i).length ≤ 24) := Lib.hid (by have := H24.out; rw [List.length_eraseIdx]; split <;> omega)
 have HHJ : Hid (x.houses[m.house.toNat]? = some x.houses[j]) := Lib.hid (by rw [HMJ.out, Int.toNat_natCast]; exact List.getElem?_eq_getElem hjn)
 have hjl : ¬ (x.houses.length : Int) ≤ (j : Int) := by omega
 obtain ⟨c0, c1, c2, c3, c4, c5⟩ := cells6 R26.out
 obtain ⟨d0, d1, d2⟩ := cells3 R36.out
 obtain ⟨m0, m1, m2, m3⟩ := cells4 RM6.out
 have z2 : w.heap.size < w6.heap.size := (Array.getElem?_eq_some_iff.1 R26.out).1
 have z3 : w.heap.size + 1 < w6.heap.size := (Array.getElem?_eq_some_iff.1 R36.out).1
 have zM : BM < w6.heap.size := (Array.getElem?_eq_some_iff.1 RM6.out).1
 go_upto_region 25 with fail
 obtain ⟨tf, htf⟩ : ∃ b : Bool, b = forHouse m := ⟨_, rfl⟩
 have HTF := Lib.hid htf
 clear htf
 go_cut [143] from 131 (fun s143 wc => s143 = .bool tf ∧ w6 = wc)
 case first =>
  by_cases hk1 : m.kind = 1
  ·have hb1 : (m.kind == 1) = true := by simp [hk1]
   have HK1 := Lib.hid hk1
   clear hk1
   go_wp2
   go_meet
   case rel => exact ⟨by rw [HTF.out, forHouse_iff]; have h1 := HK1.out; simp [h1], rfl⟩
  ·have hb1 : (m.kind == 1) = false := by simp [hk1]
   have HK1 := Lib.hid hk1
   clear hk1
   by_cases hk4 : m.kind = 4
   ·have hb4 : (m.kind == 4) = true := by simp [hk4]
    have HK4 := Lib.hid hk4
    clear hk4
    go_wp2
    go_meet
    case rel => exact ⟨by rw [HTF.out, forHouse_iff]; have h1 := HK4.out; simp [h1], rfl⟩
   ·have hb4 : (m.kind == 4) = false := by simp [hk4]
    have HK4 := Lib.hid hk4
    clear hk4
    by_cases hk5 : m.kind = 5
    ·have hb5 : (m.kind == 5) = true := by simp [hk5]
     have HK5 := Lib.hid hk5
     clear hk5
     go_wp2
     go_meet
     case rel => exact ⟨by rw [HTF.out, forHouse_iff]; have h1 := HK5.out; simp [h1], rfl⟩
    ·have hb5 : (m.kind == 5) = false := by simp [hk5]
     have HK5 := Lib.hid hk5
     clear hk5
     go_wp2
     go_meet
     case rel => exact ⟨by rw [HTF.out, forHouse_iff]; have h1 := HK1.out; have h4 := HK4.out; have h5 := HK5.out; simp [h1, h4, h5], rfl⟩
 case rest =>
 obtain ⟨rfl, rfl⟩ := hcut
 clear c0 c1 c2 c3 c4 c5 d0 d1 d2 m0 m1 m2 m3 z2 z3 zM
 cases tf with
 | true =>
  have HEC := Lib.hid (come_house (w := { x with net := x.net.eraseIdx i }) HHJ.out HTF.out.symm)
  rw [HEC.out, HMJ.out, Int.toNat_natCast] at HE0
  as_aux_lemma =>
   have hq2 := HQ2.out
   obtain ⟨ah', ch', he9, -, -, -, hel⟩ := hq2
   simp only [Value.slice.injEq, true_and] at he9
   obtain ⟨rfl, rfl⟩ := he9
   obtain ⟨bh, oh, vl, vr, vd, rfl, e0, e1, e2, e3, e4, e5, e6, hH1, s1, s2, s3, s4, hH2, hH3⟩ := Hss.at_ hel j hjn
   obtain ⟨il, jl, rfl, -⟩ := id hH1
   obtain ⟨ir, jr, rfl, -⟩ := id hH2
   obtain ⟨id9, jd, rfl, -⟩ := id hH3
   have HHS : Hid (Of Ty.hs c (.agg #[.slice il x.houses[j].log.length jl, .int .i64 x.houses[j].sums.a, .int .i64 x.houses[j].sums.b, .int .i64 x.houses[j].sums.c, .int .i64 x.houses[j].sums.d, .slice ir x.houses[j].ready.length jr, .slice id9 x.houses[j].done.length jd]) x.houses[j]) := Lib.hid ⟨_, rfl, _, _, _, rfl, hH1, s1, s2, s3, s4, hH2, hH3⟩
   have HE7 := Lib.hid (And.intro e0 (And.intro e1 (And.intro e2 (And.intro e3 (And.intro e4 (And.intro e5 e6))))))
   have HHI := Lib.hid (HWI.out.core.house j _ (List.getElem?_eq_getElem hjn))
   have HKL : Hid (x.houses[j].log.length ≤ k) := Lib.hid (HFW.out.logs _ (List.getElem_mem hjn))
   have HSY : Hid (∀ q ∈ hearM x.houses[j] m.house m, wrongM q = 0) := Lib.hid (WI.says (HWI.out.core.hear HMO.out HHJ.out).2.2)
   rw [HMJ.out] at HSY
   have HSR := Lib.hid HHI.out.keys
   have HMD := Lib.hid HHI.out.calm.made
   clear hel hH1 hH2 hH3 s1 s2 s3 s4 e0 e1 e2 e3 e4 e5 e6
   generalize x.houses[j] = hh at *
   have HS : Hid (∀ W, Grow w6 W → W.cell? ⟨w.heap.size, 4, none⟩ = some (.slice (some ⟨bh, oh, none⟩) x.houses.length ch) ∧ W.cell? ⟨BM, 0, none⟩ = some (.int .i64 m.kind) ∧ W.cell? ⟨BM, 1, none⟩ = some (.int .i64 m.deed) ∧ W.cell? ⟨BM, 2, none⟩ = some (.int .i64 (j : Int)) ∧ W.cell? ⟨BM, 3, none⟩ = some (.slice ap5 m.parts.length cp5) ∧ W.cell? ⟨bh, oh + j * 7, none⟩ = some (.slice il hh.log.length jl) ∧ W.cell? ⟨bh, oh + j * 7 + 1, none⟩ = some (.int .i64 hh.sums.a) ∧ W.cell? ⟨bh, oh + j * 7 + 2, none⟩ = some (.int .i64 hh.sums.b) ∧ W.cell? ⟨bh, oh + j * 7 + 3, none⟩ = some (.int .i64 hh.sums.c) ∧ W.cell? ⟨bh, oh + j * 7 + 4, none⟩ = some (.int .i64 hh.sums.d) ∧ W.cell? ⟨bh, oh + j * 7 + 5, none⟩ = some (.slice ir hh.ready.length jr) ∧ W.cell? ⟨bh, oh + j * 7 + 6, none⟩ = some (.slice id9 hh.done.length jd)) := fun W hW => by
    obtain ⟨-, -, -, -, j4, -⟩ := cells6 (row_grow R26.out hW)
    obtain ⟨k0, k1, k2, k3⟩ := cells4 (row_grow RM6.out hW)
    have gs := HC.out.trans (G6.out.trans hW).sub
    obtain ⟨e0, e1, e2, e3, e4, e5, e6⟩ := HE7.out
    exact ⟨j4, k0, k1, k2, k3, gs _ _ e0, gs _ _ e1, gs _ _ e2, gs _ _ e3, gs _ _ e4, gs _ _ e5, gs _ _ e6⟩
   have hj0 : (0 : Int) ≤ (j : Int) := by omega
   have hj1 : (j : Int) < (x.houses.length : Int) := by omega
   go_upto_region 26 with fail
   refine but_start (fun w' => w'.cell? ⟨w.heap.size, 4, none⟩ = some (.slice (some ⟨bh, oh, none⟩) x.houses.length ch) ∧ w'.cell? ⟨BM, 0, none⟩ = some (.int .i64 m.kind) ∧ w'.cell? ⟨BM, 1, none⟩ = some (.int .i64 m.deed) ∧ w'.cell? ⟨BM, 2, none⟩ = some (.int .i64 (j : Int)) ∧ w'.cell? ⟨BM, 3, none⟩ = some (.slice ap5 m.parts.length cp5) ∧ w'.cell? ⟨bh, oh + j * 7, none⟩ = some (.slice il hh.log.length jl) ∧ w'.cell? ⟨bh, oh + j * 7 + 1, none⟩ = some (.int .i64 hh.sums.a) ∧ w'.cell? ⟨bh, oh + j * 7 + 2, none⟩ = some (.int .i64 hh.sums.b) ∧ w'.cell? ⟨bh, oh + j * 7 + 3, none⟩ = some (.int .i64 hh.sums.c) ∧ w'.cell? ⟨bh, oh + j * 7 + 4, none⟩ = some (.int .i64 hh.sums.d) ∧ w'.cell? ⟨bh, oh + j * 7 + 5, none⟩ = some (.slice ir hh.ready.length jr) ∧ w'.cell? ⟨bh, oh + j * 7 + 6, none⟩ = some (.slice id9 hh.done.length jd)) 15 (by kernel_rfl) ?_
   obtain ⟨wd, hWd⟩ : ∃ x : World, x = w6.drew := ⟨_, rfl⟩
   rw [← hWd]
   have GD : Grow w6 wd := by rw [hWd]; exact (Grow.refl _).drew
   have zD : w6.heap.size = wd.heap.size := by rw [hWd]; rfl
   have ZD := Lib.hid zD
   clear hWd zD
   refine bLm [0] 20 (by kernel_rfl) (fun _ _ _ _ _ h => h) (HS.out _ GD) ?_
   repeat (refine tNm (v := ?_) rfl (by rfl) ?_ ?_; rotate_left; (· (intro w' hSw; (try dsimp only at hSw); obtain ⟨hs0, hs1, hs2, hs3, hs4, hs5, hs6, hs7, hs8, hs9, hs10, hs11⟩ := hSw; go_simp <;> with_reducible rfl)); try simp only [Act.put, lzA, lzC, lzD, lzE, lzF])
   refine tEm ?_
   refine bLm [1, 2, 3, 4, 5, 6, 7, 8] 20 (by kernel_rfl) (fun _ _ _ _ _ h => h) (HS.out _ GD) ?_
   repeat (refine tNm (v := ?_) rfl (by rfl) ?_ ?_; rotate_left; (· (intro w' hSw; (try dsimp only at hSw); obtain ⟨hs0, hs1, hs2, hs3, hs4, hs5, hs6, hs7, hs8, hs9, hs10, hs11⟩ := hSw; go_simp <;> with_reducible rfl)); try simp only [Act.put, lzA, lzB, lzC, lzD, lzE, lzF])
   refine tEm ?_
   refine bP 9 13 (by kernel_rfl) rfl rfl ?_ ?_
   ·intro K HK
    try simp only [lzA, lzB, lzC]
    go_simp
    go_at_call 35
    refine (ref_hear (c := dm c w w6) (h := hh) (m := m) (me := (j : Int)) _ ((dm_sub HC.out G6.out).trans (Grow.sub GD)) (HHS.out.mono (dm_in HC.out)) HM6.out HSR.out (ms_keys HRM.out) (by have := HKL.out; omega) (i64_of (by omega) (by omega)) HMD.out).mono ?_
    rintro e7 w7 ⟨v7, y7, rfl, hx7, hy7, hb7⟩
    have GX7 := Lib.hid (Grow.trans GD hb7)
    have GB7 := Lib.hid hb7
    obtain ⟨al7, cl7, ar7, cr7, ad7, cd7, rfl⟩ := hx7.hs_form
    obtain ⟨ay7, cy7, rfl, -⟩ := id hy7
    have HX7 := Lib.hid hx7
    have HY7 := Lib.hid hy7
    clear hx7 hy7 hb7
    generalize hearH hh m = gh at *
    generalize hearM hh (j : Int) m = gm at *
    refine HK.out _ _ ⟨fun _ => HS.out _ GX7.out, ?_⟩
    clear HK K
    try simp only [Act.put, lzA, lzB, lzC, lzD, lzE, lzF]
    refine bLm [10, 11, 12] 20 (by kernel_rfl) (fun _ _ _ _ _ h => h) (HS.out _ GX7.out) ?_
    repeat (refine tNm (v := ?_) rfl (by rfl) ?_ ?_; rotate_left; (· (intro w' hSw; (try dsimp only at hSw); obtain ⟨hs0, hs1, hs2, hs3, hs4, hs5, hs6, hs7, hs8, hs9, hs10, hs11⟩ := hSw; go_simp <;> with_reducible rfl)); try simp only [Act.put, lzA, lzB, lzC, lzD, lzE, lzF])
    refine tEm ?_
    refine bO 13 (by kernel_rfl) rfl ?_
    intro K HK
    try simp only [lzA, lzB, lzC]
    go_simp
    obtain ⟨wg, hwg⟩ : ∃ y : World, y = w7.alloc (.cells #[.slice none 0 0, .int .i64 0, .int .i64 0, .int .i64 0, .int .i64 0, .slice none 0 0, .slice none 0 0] 29) := ⟨_, rfl⟩
    obtain ⟨BG, hBG⟩ : ∃ y, y = w7.heap.size := ⟨_, rfl⟩
    have GG : Hid (Grow w7 wg) := Lib.hid (by rw [hwg]; exact (Grow.refl _).alloc _)
    have GW6 : Hid (Grow w6 wg) := Lib.hid (Grow.trans GX7.out GG.out)
    have RG : Hid (wg.heap[BG]? = some (.cells #[.slice none 0 0, .int .i64 0, .int .i64 0, .int .i64 0, .int .i64 0, .slice none 0 0, .slice none 0 0] 29 (0, 0))) := Lib.hid (by rw [hwg, hBG]; exact row_new _ _)
    have HBG : Hid (BG = w7.heap.size) := Lib.hid hBG
    have HGW : Hid (w6.heap.size ≤ w7.heap.size) := Lib.hid (GX7.out).size
    rw [← hwg, ← hBG]
    clear hwg hBG
    have RG7 := Lib.hid RG.out
    refine HK.out _ _ ⟨fun _ => HS.out _ GW6.out, ?_⟩
    clear HK K
    try simp only [Act.put, lzA, lzB, lzC, lzD, lzE, lzF]
    refine bO 14 (by kernel_rfl) rfl ?_
    intro K HK
    refine wanted_go rfl ?_
    try simp only [lzA, lzB, lzC]
    refine wp_store_row (.tmp 14) (.tmp 155) rfl rfl rfl RG7.out info_hs rfl rfl ?_
    intro w8 r8 g8
    have RG8 := Lib.hid r8
    have GX8 : Hid (Grow w6 w8) := Lib.hid (Grow.grown GW6.out g8 (fun q hq => by have := Option.some.inj hq; have := HBG.out; have := HGW.out; omega))
    have HP8 : Hid (Sub (ov (dm c w w6) wd w7) (dm c w w8)) := Lib.hid (dm_past GX8.out (fun a9 v9 hl9 e9 => cell_past (GG.out.sub _ _ e9) g8 (by have := World.block_lt_of_cell? w7 a9 e9; have := HBG.out; omega)) (by have := HW6.out; have := (GD).size; omega))
    have HX8 := Lib.hid (HX7.out.mono HP8.out)
    have HY8 := Lib.hid (HY7.out.mono HP8.out)
    clear r8 g8
    refine HK.out _ _ ⟨fun _ => (HS.out _ GX8.out), ?_⟩
    clear HK K
    try simp only [Act.put]
    refine bO 15 (by kernel_rfl) rfl ?_
    intro K HK
    try simp only [lzA, lzB, lzC]
    go_simp
    refine HK.out _ _ ⟨fun h => absurd rfl h, ?_⟩
    clear HK K
    try simp only [Act.put, lzA, lzB, lzC, lzD, lzE, lzF]
    refine but_done (by kernel_rfl) ?_
    have G8 := Lib.hid (G6.out.trans GX8.out)
    have R28 := Lib.hid (row_grow R26.out GX8.out)
    have R48 := Lib.hid (row_grow R46.out GX8.out)
    have RM8 := Lib.hid (row_grow RM6.out GX8.out)
    have HN8 := Lib.hid (HN6.out.mono (dm_grow GX8.out))
    have HWD8 : Hid (Of Ty.wd (dm c w w8) (.agg #[.slice al x.head.log.length cl, .int .i64 x.head.boot, .int .i64 x.head.next, .slice ao x.head.opn.length co, .slice (some ⟨bh, oh, none⟩) x.houses.length ch, .slice a9 n9 c9]) { x with net := x.net.eraseIdx i }) := Lib.hid (Of.wd_mk (HQ1.out.mono (dm_in HC.out)) (HQ2.out.mono (dm_in HC.out)) HN8.out)
    clear HS HN6
    obtain ⟨c0, c1, c2, c3, c4, c5⟩ := cells6 R28.out
    obtain ⟨m0, m1, m2, m3⟩ := cells4 RM8.out
    obtain ⟨g0, g1, g2, g3, g4, g5, g6⟩ := cells7 RG8.out
    have z2 : w.heap.size < w8.heap.size := (Array.getElem?_eq_some_iff.1 R28.out).1
    have zM : BM < w8.heap.size := (Array.getElem?_eq_some_iff.1 RM8.out).1
    have zG : BG < w8.heap.size := (Array.getElem?_eq_some_iff.1 RG8.out).1
    go_wp2_with fail
    refine (ref_with (c := dm c w w8) (x := { x with net := x.net.eraseIdx i }) (h := gh) (k := j) _ (dm_sub HC.out G8.out) HWD8.out HX8.out hjn hj3).mono ?_
    rintro e9 w9x ⟨v9, rfl, hx9, hb9⟩
    have HW8 : Hid (w.heap.size + 3 ≤ w8.heap.size) := Lib.hid (by have := HW6.out; have := GX8.out.size; omega)
    have HX9 := Lib.hid (hx9.mono (dm_past hb9 (fun _ _ _ e => e) HW8.out))
    have HY9 := Lib.hid (HY8.out.mono (dm_grow hb9))
    have R29 := Lib.hid (row_grow R28.out hb9)
    have R49x := Lib.hid (row_grow R48.out hb9)
    have G9 := Lib.hid (G8.out.trans hb9)
    obtain ⟨al9, cl9, ao9, co9, ah9, ch9, an9, cn9, rfl⟩ := hx9.wd_form
    clear hx9 hb9 c0 c1 c2 c3 c4 c5 m0 m1 m2 m3 g0 g1 g2 g3 g4 g5 g6 z2 zM zG
    have HHL : Hid ((x.houses.set j gh).length = x.houses.length) := Lib.hid List.length_set
    have HLM : Hid (((x.net.eraseIdx i).map bytesM).length * 24 + 1000 ≤ 140737488355328) := Lib.hid (by rw [List.length_map]; have := HLE.out; omega)
    dsimp only at HX9 ⊢
    generalize (x.houses.set j gh).length = nh at *
    generalize (x.net.eraseIdx i).length = nn at *
    go_wp2_with (first | (refine wpList_store_row rfl (.tmp 2) (.tmp 161) rfl rfl rfl R29.out info_wd rfl rfl ?_))
    intro w10 r10 g10
    have R210 := Lib.hid r10
    have R410 := Lib.hid (row_by R49x.out g10 (by intro e; have := Option.some.inj e; omega))
    have G10 := Lib.hid (G9.out.grown g10 (fun q hq => by have := Option.some.inj hq; omega))
    have HX10 := Lib.hid (HX9.out.mono (dm_box g10 (by omega)))
    have HY10 := Lib.hid (HY9.out.mono (dm_box g10 (by omega)))
    have HSZ10 : Hid (w.heap.size + 3 ≤ w10.heap.size) := Lib.hid (by have := g10.size; have := (Array.getElem?_eq_some_iff.1 R49x.out).1; omega)
    clear r10 g10
    obtain ⟨c0, c1, c2, c3, c4, c5⟩ := cells6 R210.out
    have z2 : w.heap.size < w10.heap.size := (Array.getElem?_eq_some_iff.1 R210.out).1
    have HNP := Lib.hid HX10.out.wd_parts.2.2
    go_wp2_with fail
    refine (ref_sendC (c := dm c w w10) (l := (x.net.eraseIdx i).map bytesM) (ms := gm) _ (dm_sub HC.out G10.out) HNP.out (HY10.out.mono (dm_sub HC.out G10.out)) HSY.out HLM.out).mono ?_
    rintro e11 w11 ⟨v11, rfl, hn11, hb11⟩
    rw [send_map] at hn11
    obtain ⟨a11, c11, rfl, -⟩ := id hn11
    have HN11 := Lib.hid (hn11.mono (dm_past hb11 (fun _ _ _ e => e) HSZ10.out))
    have HX11 := Lib.hid (HX10.out.mono (dm_grow hb11))
    have R211 := Lib.hid (row_grow R210.out hb11)
    have R411 := Lib.hid (row_grow R410.out hb11)
    have G11 := Lib.hid (G10.out.trans hb11)
    clear hn11 hb11 c0 c1 c2 c3 c4 c5 z2
    generalize ((sendA (x.net.eraseIdx i) gm).map bytesM).length = ns at *
    go_wp2_with (first | (refine wpList_store_cell rfl (.tmp 166) (.tmp 165) (v := .slice a11 ns c11) (new := #[.slice al9 x.head.log.length cl9, .int .i64 x.head.boot, .int .i64 x.head.next, .slice ao9 x.head.opn.length co9, .slice ah9 nh ch9, .slice a11 ns c11]) rfl rfl (by rfl) (by rfl) R211.out info_nets (by simp) (by rfl) (by rfl) ?_))
    intro w12 r12 g12
    have R212 := Lib.hid r12
    have R412 := Lib.hid (row_by R411.out g12 (by intro e; have := Option.some.inj e; omega))
    have G12 := Lib.hid (G11.out.grown g12 (fun q hq => by have := Option.some.inj hq; omega))
    have HX12 := Lib.hid (HX11.out.mono (dm_box g12 (by omega)))
    have HN12 := Lib.hid (HN11.out.mono (dm_box g12 (by omega)))
    clear r12 g12
    obtain ⟨c0, c1, c2, c3, c4, c5⟩ := cells6 R212.out
    have z2 : w.heap.size < w12.heap.size := (Array.getElem?_eq_some_iff.1 R212.out).1
    go_upto_region 29 with fail
    go_wp2_with (first | (refine wpList_store_row rfl (.tmp 4) (.tmp 167) rfl rfl rfl R412.out info_wd rfl rfl ?_))
    intro w7 r7 g7
    obtain ⟨p0, p1, p2, p3, p4, p5⟩ := cells6 r7
    clear c0 c1 c2 c3 c4 c5
    go_wp2
    refine bodyPost_ret (v := .tuple #[.agg #[.slice al9 x.head.log.length cl9, .int .i64 x.head.boot, .int .i64 x.head.next, .slice ao9 x.head.opn.length co9, .slice ah9 nh ch9, .slice a11 ns c11], .int .i64 0]) (by simp [results, Try.results138, go_sem, p0, p1, p2, p3, p4, p5]) rfl ?_
    have G7 := G12.out.grown g7 (fun q hq => by simp at hq; omega)
    rw [HE0.out, HE2.out]
    have hsub : Sub (dm c w w12) (ov c w w7) := (dm_box g7 (by omega)).trans (dm_end _ _ _)
    obtain ⟨q1, q2, -⟩ := HX12.out.wd_parts
    exact ⟨_, rfl, Of.wd_mk (q1.mono hsub) (q2.mono hsub) (HN12.out.mono hsub), G7⟩
   ·intro K HK
    try simp only [lzA, lzB, lzC]
    go_simp
    obtain ⟨wg, hwg⟩ : ∃ y : World, y = wd.alloc (.cells #[.slice none 0 0, .int .i64 0, .int .i64 0, .int .i64 0, .int .i64 0, .slice none 0 0, .slice none 0 0] 29) := ⟨_, rfl⟩
    obtain ⟨BG, hBG⟩ : ∃ y, y = wd.heap.size := ⟨_, rfl⟩
    have GG : Hid (Grow wd wg) := Lib.hid (by rw [hwg]; exact (Grow.refl _).alloc _)
    have GW6 : Hid (Grow w6 wg) := Lib.hid (Grow.trans GD GG.out)
    have RG : Hid (wg.heap[BG]? = some (.cells #[.slice none 0 0, .int .i64 0, .int .i64 0, .int .i64 0, .int .i64 0, .slice none 0 0, .slice none 0 0] 29 (0, 0))) := Lib.hid (by rw [hwg, hBG]; exact row_new _ _)
    have HBG : Hid (BG = wd.heap.size) := Lib.hid hBG
    have HGW : Hid (w6.heap.size ≤ wd.heap.size) := Lib.hid (GD).size
    rw [← hwg, ← hBG]
    clear hwg hBG
    refine HK.out _ _ ⟨fun _ => HS.out _ GW6.out, ?_⟩
    clear HK K
    try simp only [Act.put, lzA, lzB, lzC, lzD, lzE, lzF]
    refine bO 9 (by kernel_rfl) rfl ?_
    intro K HK
    try simp only [lzA, lzB, lzC]
    go_simp
    go_at_call 35
    refine (ref_hear (c := dm c w w6) (h := hh) (m := m) (me := (j : Int)) _ ((dm_sub HC.out G6.out).trans (Grow.sub GW6.out)) (HHS.out.mono (dm_in HC.out)) HM6.out HSR.out (ms_keys HRM.out) (by have := HKL.out; omega) (i64_of (by omega) (by omega)) HMD.out).mono ?_
    rintro e7 w7 ⟨v7, y7, rfl, hx7, hy7, hb7⟩
    have GX7 := Lib.hid (Grow.trans GW6.out hb7)
    have GB7 := Lib.hid hb7
    obtain ⟨al7, cl7, ar7, cr7, ad7, cd7, rfl⟩ := hx7.hs_form
    obtain ⟨ay7, cy7, rfl, -⟩ := id hy7
    have HX7 := Lib.hid hx7
    have HY7 := Lib.hid hy7
    clear hx7 hy7 hb7
    generalize hearH hh m = gh at *
    generalize hearM hh (j : Int) m = gm at *
    have RG7 := Lib.hid (row_grow RG.out GB7.out)
    refine HK.out _ _ ⟨fun _ => HS.out _ GX7.out, ?_⟩
    clear HK K
    try simp only [Act.put, lzA, lzB, lzC, lzD, lzE, lzF]
    refine bLm [10, 11, 12] 20 (by kernel_rfl) (fun _ _ _ _ _ h => h) (HS.out _ GX7.out) ?_
    repeat (refine tNm (v := ?_) rfl (by rfl) ?_ ?_; rotate_left; (· (intro w' hSw; (try dsimp only at hSw); obtain ⟨hs0, hs1, hs2, hs3, hs4, hs5, hs6, hs7, hs8, hs9, hs10, hs11⟩ := hSw; go_simp <;> with_reducible rfl)); try simp only [Act.put, lzA, lzB, lzC, lzD, lzE, lzF])
    refine tEm ?_
    refine bO 14 (by kernel_rfl) rfl ?_
    intro K HK
    refine wanted_go rfl ?_
    try simp only [lzA, lzB, lzC]
    refine wp_store_row (.tmp 14) (.tmp 155) rfl rfl rfl RG7.out info_hs rfl rfl ?_
    intro w8 r8 g8
    have RG8 := Lib.hid r8
    have GX8 : Hid (Grow w6 w8) := Lib.hid (Grow.grown GX7.out g8 (fun q hq => by have := Option.some.inj hq; have := HBG.out; have := HGW.out; omega))
    have HP8 : Hid (Sub (ov (dm c w w6) wg w7) (dm c w w8)) := Lib.hid (dm_past GX8.out (fun a9 v9 hl9 e9 => cell_past e9 g8 (by have := (Array.getElem?_eq_some_iff.1 RG.out).1; omega)) (by have := HW6.out; have := (GW6.out).size; omega))
    have HX8 := Lib.hid (HX7.out.mono HP8.out)
    have HY8 := Lib.hid (HY7.out.mono HP8.out)
    clear r8 g8
    refine HK.out _ _ ⟨fun _ => (HS.out _ GX8.out), ?_⟩
    clear HK K
    try simp only [Act.put]
    refine bO 15 (by kernel_rfl) rfl ?_
    intro K HK
    try simp only [lzA, lzB, lzC]
    go_simp
    refine HK.out _ _ ⟨fun h => absurd rfl h, ?_⟩
    clear HK K
    try simp only [Act.put, lzA, lzB, lzC, lzD, lzE, lzF]
    refine but_done (by kernel_rfl) ?_
    have G8 := Lib.hid (G6.out.trans GX8.out)
    have R28 := Lib.hid (row_grow R26.out GX8.out)
    have R48 := Lib.hid (row_grow R46.out GX8.out)
    have RM8 := Lib.hid (row_grow RM6.out GX8.out)
    have HN8 := Lib.hid (HN6.out.mono (dm_grow GX8.out))
    have HWD8 : Hid (Of Ty.wd (dm c w w8) (.agg #[.slice al x.head.log.length cl, .int .i64 x.head.boot, .int .i64 x.head.next, .slice ao x.head.opn.length co, .slice (some ⟨bh, oh, none⟩) x.houses.length ch, .slice a9 n9 c9]) { x with net := x.net.eraseIdx i }) := Lib.hid (Of.wd_mk (HQ1.out.mono (dm_in HC.out)) (HQ2.out.mono (dm_in HC.out)) HN8.out)
    clear HS HN6
    obtain ⟨c0, c1, c2, c3, c4, c5⟩ := cells6 R28.out
    obtain ⟨m0, m1, m2, m3⟩ := cells4 RM8.out
    obtain ⟨g0, g1, g2, g3, g4, g5, g6⟩ := cells7 RG8.out
    have z2 : w.heap.size < w8.heap.size := (Array.getElem?_eq_some_iff.1 R28.out).1
    have zM : BM < w8.heap.size := (Array.getElem?_eq_some_iff.1 RM8.out).1
    have zG : BG < w8.heap.size := (Array.getElem?_eq_some_iff.1 RG8.out).1
    go_wp2_with fail
    refine (ref_with (c := dm c w w8) (x := { x with net := x.net.eraseIdx i }) (h := gh) (k := j) _ (dm_sub HC.out G8.out) HWD8.out HX8.out hjn hj3).mono ?_
    rintro e9 w9x ⟨v9, rfl, hx9, hb9⟩
    have HW8 : Hid (w.heap.size + 3 ≤ w8.heap.size) := Lib.hid (by have := HW6.out; have := GX8.out.size; omega)
    have HX9 := Lib.hid (hx9.mono (dm_past hb9 (fun _ _ _ e => e) HW8.out))
    have HY9 := Lib.hid (HY8.out.mono (dm_grow hb9))
    have R29 := Lib.hid (row_grow R28.out hb9)
    have R49x := Lib.hid (row_grow R48.out hb9)
    have G9 := Lib.hid (G8.out.trans hb9)
    obtain ⟨al9, cl9, ao9, co9, ah9, ch9, an9, cn9, rfl⟩ := hx9.wd_form
    clear hx9 hb9 c0 c1 c2 c3 c4 c5 m0 m1 m2 m3 g0 g1 g2 g3 g4 g5 g6 z2 zM zG
    have HHL : Hid ((x.houses.set j gh).length = x.houses.length) := Lib.hid List.length_set
    have HLM : Hid (((x.net.eraseIdx i).map bytesM).length * 24 + 1000 ≤ 140737488355328) := Lib.hid (by rw [List.length_map]; have := HLE.out; omega)
    dsimp only at HX9 ⊢
    generalize (x.houses.set j gh).length = nh at *
    generalize (x.net.eraseIdx i).length = nn at *
    go_wp2_with (first | (refine wpList_store_row rfl (.tmp 2) (.tmp 161) rfl rfl rfl R29.out info_wd rfl rfl ?_))
    intro w10 r10 g10
    have R210 := Lib.hid r10
    have R410 := Lib.hid (row_by R49x.out g10 (by intro e; have := Option.some.inj e; omega))
    have G10 := Lib.hid (G9.out.grown g10 (fun q hq => by have := Option.some.inj hq; omega))
    have HX10 := Lib.hid (HX9.out.mono (dm_box g10 (by omega)))
    have HY10 := Lib.hid (HY9.out.mono (dm_box g10 (by omega)))
    have HSZ10 : Hid (w.heap.size + 3 ≤ w10.heap.size) := Lib.hid (by have := g10.size; have := (Array.getElem?_eq_some_iff.1 R49x.out).1; omega)
    clear r10 g10
    obtain ⟨c0, c1, c2, c3, c4, c5⟩ := cells6 R210.out
    have z2 : w.heap.size < w10.heap.size := (Array.getElem?_eq_some_iff.1 R210.out).1
    have HNP := Lib.hid HX10.out.wd_parts.2.2
    go_wp2_with fail
    refine (ref_sendC (c := dm c w w10) (l := (x.net.eraseIdx i).map bytesM) (ms := gm) _ (dm_sub HC.out G10.out) HNP.out (HY10.out.mono (dm_sub HC.out G10.out)) HSY.out HLM.out).mono ?_
    rintro e11 w11 ⟨v11, rfl, hn11, hb11⟩
    rw [send_map] at hn11
    obtain ⟨a11, c11, rfl, -⟩ := id hn11
    have HN11 := Lib.hid (hn11.mono (dm_past hb11 (fun _ _ _ e => e) HSZ10.out))
    have HX11 := Lib.hid (HX10.out.mono (dm_grow hb11))
    have R211 := Lib.hid (row_grow R210.out hb11)
    have R411 := Lib.hid (row_grow R410.out hb11)
    have G11 := Lib.hid (G10.out.trans hb11)
    clear hn11 hb11 c0 c1 c2 c3 c4 c5 z2
    generalize ((sendA (x.net.eraseIdx i) gm).map bytesM).length = ns at *
    go_wp2_with (first | (refine wpList_store_cell rfl (.tmp 166) (.tmp 165) (v := .slice a11 ns c11) (new := #[.slice al9 x.head.log.length cl9, .int .i64 x.head.boot, .int .i64 x.head.next, .slice ao9 x.head.opn.length co9, .slice ah9 nh ch9, .slice a11 ns c11]) rfl rfl (by rfl) (by rfl) R211.out info_nets (by simp) (by rfl) (by rfl) ?_))
    intro w12 r12 g12
    have R212 := Lib.hid r12
    have R412 := Lib.hid (row_by R411.out g12 (by intro e; have := Option.some.inj e; omega))
    have G12 := Lib.hid (G11.out.grown g12 (fun q hq => by have := Option.some.inj hq; omega))
    have HX12 := Lib.hid (HX11.out.mono (dm_box g12 (by omega)))
    have HN12 := Lib.hid (HN11.out.mono (dm_box g12 (by omega)))
    clear r12 g12
    obtain ⟨c0, c1, c2, c3, c4, c5⟩ := cells6 R212.out
    have z2 : w.heap.size < w12.heap.size := (Array.getElem?_eq_some_iff.1 R212.out).1
    go_upto_region 29 with fail
    go_wp2_with (first | (refine wpList_store_row rfl (.tmp 4) (.tmp 167) rfl rfl rfl R412.out info_wd rfl rfl ?_))
    intro w7 r7 g7
    obtain ⟨p0, p1, p2, p3, p4, p5⟩ := cells6 r7
    clear c0 c1 c2 c3 c4 c5
    go_wp2
    refine bodyPost_ret (v := .tuple #[.agg #[.slice al9 x.head.log.length cl9, .int .i64 x.head.boot, .int .i64 x.head.next, .slice ao9 x.head.opn.length co9, .slice ah9 nh ch9, .slice a11 ns c11], .int .i64 0]) (by simp [results, Try.results138, go_sem, p0, p1, p2, p3, p4, p5]) rfl ?_
    have G7 := G12.out.grown g7 (fun q hq => by simp at hq; omega)
    rw [HE0.out, HE2.out]
    have hsub : Sub (dm c w w12) (ov c w w7) := (dm_box g7 (by omega)).trans (dm_end _ _ _)
    obtain ⟨q1, q2, -⟩ := HX12.out.wd_parts
    exact ⟨_, rfl, Of.wd_mk (q1.mono hsub) (q2.mono hsub) (HN12.out.mono hsub), G7⟩
 | false =>
  have HEC := Lib.hid (come_head (w := { x with net := x.net.eraseIdx i }) HHJ.out HTF.out.symm)
  rw [HEC.out] at HE0
  as_aux_lemma =>
   have HSYH : Hid (∀ q ∈ hHearM x.head m, wrongM q = 0) := Lib.hid (WI.says (HWI.out.core.hHear HMO.out).2.2)
   obtain ⟨c0, c1, c2, c3, c4, c5⟩ := cells6 R26.out
   obtain ⟨m0, m1, m2, m3⟩ := cells4 RM6.out
   have z2 : w.heap.size < w6.heap.size := (Array.getElem?_eq_some_iff.1 R26.out).1
   have zM : BM < w6.heap.size := (Array.getElem?_eq_some_iff.1 RM6.out).1
   go_wp2_with fail
   refine (ref_headHear (c := dm c w w6) (h := x.head) (m := m) _ (dm_sub HC.out G6.out) (HQ1.out.mono (dm_in HC.out)) HM6.out HHD.out).mono ?_
   rintro e7 w7 ⟨v7, y7, rfl, hx7, hy7, hb7⟩
   have HX7 := Lib.hid (hx7.mono (dm_past hb7 (fun _ _ _ e => e) HW6.out))
   have HY7 := Lib.hid (hy7.mono (dm_past hb7 (fun _ _ _ e => e) HW6.out))
   have GX7 := Lib.hid hb7
   obtain ⟨al8, cl8, ao8, co8, rfl⟩ := hx7.hd_form
   obtain ⟨ay8, cy8, rfl, -⟩ := id hy7
   have R27 := Lib.hid (row_grow R26.out hb7)
   have R47 := Lib.hid (row_grow R46.out hb7)
   have HN7 := Lib.hid (HN6.out.mono (dm_grow hb7))
   have G7x := Lib.hid (G6.out.trans hb7)
   clear hx7 hy7 hb7 c0 c1 c2 c3 c4 c5 m0 m1 m2 m3 z2 zM HN6
   generalize hHearH x.head m = qh at *
   generalize hHearM x.head m = qm at *
   go_upto_region 31 with fail
   obtain ⟨w8, hw8⟩ : ∃ y : World, y = w7.alloc (.cells #[.slice al8 qh.log.length cl8, .int .i64 qh.boot, .int .i64 qh.next, .slice ao8 qh.opn.length co8] 57) := ⟨_, rfl⟩
   obtain ⟨BH, hBH⟩ : ∃ y, y = w7.heap.size := ⟨_, rfl⟩
   have G78 : Hid (Grow w7 w8) := Lib.hid (by rw [hw8]; exact (Grow.refl _).alloc _)
   have RH8 : Hid (w8.heap[BH]? = some (.cells #[.slice al8 qh.log.length cl8, .int .i64 qh.boot, .int .i64 qh.next, .slice ao8 qh.opn.length co8] 57 (0, 0))) := Lib.hid (by rw [hw8, hBH]; exact row_new _ _)
   have HBHN : Hid (BH ≠ w.heap.size) := Lib.hid (by have := (Array.getElem?_eq_some_iff.1 R27.out).1; omega)
   rw [← hw8, ← hBH]
   clear hw8 hBH
   have R28 := Lib.hid (row_grow R27.out G78.out)
   have R48 := Lib.hid (row_grow R47.out G78.out)
   have G8 := Lib.hid (G7x.out.trans G78.out)
   have HN8 := Lib.hid (HN7.out.mono (dm_grow G78.out))
   have HX8 := Lib.hid (HX7.out.mono (dm_grow G78.out))
   have HY8 := Lib.hid (HY7.out.mono (dm_grow G78.out))
   have HW8 : Hid (w.heap.size + 3 ≤ w8.heap.size) := Lib.hid (by have := HW6.out; have := GX7.out.size; have := G78.out.size; omega)
   have HS : Hid (∀ W, Grow w8 W → W.cell? ⟨BH, 0, none⟩ = some (.slice al8 qh.log.length cl8) ∧ W.cell? ⟨BH, 1, none⟩ = some (.int .i64 qh.boot) ∧ W.cell? ⟨BH, 2, none⟩ = some (.int .i64 qh.next) ∧ W.cell? ⟨BH, 3, none⟩ = some (.slice ao8 qh.opn.length co8) ∧ W.cell? ⟨w.heap.size, 5, none⟩ = some (.slice a9 n9 c9)) := fun W hW => by
    obtain ⟨k0, k1, k2, k3⟩ := cells4 (row_grow RH8.out hW)
    obtain ⟨-, -, -, -, -, j5⟩ := cells6 (row_grow R28.out hW)
    exact ⟨k0, k1, k2, k3, j5⟩
   refine but_start (fun w' => w'.cell? ⟨BH, 0, none⟩ = some (.slice al8 qh.log.length cl8) ∧ w'.cell? ⟨BH, 1, none⟩ = some (.int .i64 qh.boot) ∧ w'.cell? ⟨BH, 2, none⟩ = some (.int .i64 qh.next) ∧ w'.cell? ⟨BH, 3, none⟩ = some (.slice ao8 qh.opn.length co8) ∧ w'.cell? ⟨w.heap.size, 5, none⟩ = some (.slice a9 n9 c9)) 8 (by kernel_rfl) ?_
   obtain ⟨wd, hWd⟩ : ∃ x : World, x = w8.drew := ⟨_, rfl⟩
   rw [← hWd]
   have GD : Grow w8 wd := by rw [hWd]; exact (Grow.refl _).drew
   have zD : w8.heap.size = wd.heap.size := by rw [hWd]; rfl
   have ZD := Lib.hid zD
   clear hWd zD
   refine bLm [0] 12 (by kernel_rfl) (fun _ _ _ _ _ h => h) (HS.out _ GD) ?_
   repeat (refine tNm (v := ?_) rfl (by rfl) ?_ ?_; rotate_left; (· (intro w' hSw; (try dsimp only at hSw); obtain ⟨hs0, hs1, hs2, hs3, hs4⟩ := hSw; go_simp <;> with_reducible rfl)); try simp only [Act.put, lzA, lzC, lzD, lzE, lzF])
   refine tEm ?_
   refine bLm [1, 2, 3] 12 (by kernel_rfl) (fun _ _ _ _ _ h => h) (HS.out _ GD) ?_
   repeat (refine tNm (v := ?_) rfl (by rfl) ?_ ?_; rotate_left; (· (intro w' hSw; (try dsimp only at hSw); obtain ⟨hs0, hs1, hs2, hs3, hs4⟩ := hSw; go_simp <;> with_reducible rfl)); try simp only [Act.put, lzA, lzB, lzC, lzD, lzE, lzF])
   refine tEm ?_
   refine bP 4 5 (by kernel_rfl) rfl rfl ?_ ?_
   ·intro K HK
    try simp only [lzA, lzB, lzC]
    go_simp
    go_at_call 70
    refine (ref_sendC (c := dm c w w8) (l := (x.net.eraseIdx i).map bytesM) (ms := qm) _ ((dm_sub HC.out G8.out).trans (Grow.sub GD)) HN8.out (HY8.out.mono ((dm_sub HC.out G8.out).trans (Grow.sub GD))) HSYH.out (by rw [List.length_map]; have := HLE.out; omega)).mono ?_
    rintro e10 w10 ⟨v10, rfl, hn10, hb10⟩
    rw [send_map] at hn10
    obtain ⟨a10, c10, rfl, -⟩ := id hn10
    have G10 := Lib.hid (Grow.trans GD hb10)
    have HN10 := Lib.hid (hn10.mono (dm_past (w8 := w10) G10.out (fun _ _ _ e => e) (by have := HW8.out; have := (GD).size; omega)))
    clear hn10 hb10
    generalize ((sendA (x.net.eraseIdx i) qm).map bytesM).length = ns at *
    refine HK.out _ _ ⟨fun _ => HS.out _ G10.out, ?_⟩
    clear HK K
    try simp only [Act.put, lzA, lzB, lzC, lzD, lzE, lzF]
    refine bO 5 (by kernel_rfl) rfl ?_
    intro K HK
    try simp only [lzA, lzB, lzC]
    go_simp
    refine HK.out _ _ ⟨fun _ => HS.out _ G10.out, ?_⟩
    clear HK K
    try simp only [Act.put, lzA, lzB, lzC, lzD, lzE, lzF]
    refine bO 6 (by kernel_rfl) rfl ?_
    intro K HK
    refine wanted_go rfl ?_
    try simp only [lzA, lzB, lzC]
    refine wp_store_part (.tmp 180) (.tmp 175) (p := 0) (cells := #[.slice al8 qh.log.length cl8, .int .i64 qh.boot, .int .i64 qh.next, .slice ao8 qh.opn.length co8]) (new := #[.slice al8 qh.log.length cl8, .int .i64 qh.boot, .int .i64 qh.next, .slice ao8 qh.opn.length co8, .slice ah x.houses.length ch, .slice a9 n9 c9]) rfl rfl (by rfl) (row_grow R28.out G10.out) info_hd (by simp) (by rfl) (by rfl) ?_
    intro w11 r11 g11
    have R211 := Lib.hid r11
    have HG11 := Lib.hid g11
    have R411 := Lib.hid (row_by (row_grow R48.out G10.out) g11 (by intro e; have := Option.some.inj e; omega))
    have HN11 := Lib.hid (HN10.out.mono (dm_box g11 (by omega)))
    have HX11 := Lib.hid ((HX8.out.mono (dm_grow G10.out)).mono (dm_box g11 (by omega)))
    have G11 := Lib.hid ((G8.out.trans G10.out).grown g11 (fun q hq => by have := Option.some.inj hq; omega))
    have HS11 : Hid (w11.cell? ⟨BH, 0, none⟩ = some (.slice al8 qh.log.length cl8) ∧ w11.cell? ⟨BH, 1, none⟩ = some (.int .i64 qh.boot) ∧ w11.cell? ⟨BH, 2, none⟩ = some (.int .i64 qh.next) ∧ w11.cell? ⟨BH, 3, none⟩ = some (.slice ao8 qh.opn.length co8) ∧ w11.cell? ⟨w.heap.size, 5, none⟩ = some (.slice a9 n9 c9)) := Lib.hid (by obtain ⟨k0, k1, k2, k3, -⟩ := HS.out _ G10.out; obtain ⟨-, -, -, -, -, j5⟩ := cells6 r11; have hne : BH ≠ w.heap.size := HBHN.out; exact ⟨cell_past k0 g11 hne, cell_past k1 g11 hne, cell_past k2 g11 hne, cell_past k3 g11 hne, j5⟩)
    clear r11 g11
    refine HK.out _ _ ⟨fun _ => HS11.out, ?_⟩
    clear HK K
    try simp only [Act.put]
    refine bO 7 (by kernel_rfl) rfl ?_
    intro K HK
    try simp only [lzA, lzB, lzC]
    go_simp
    refine HK.out _ _ ⟨fun _ => HS11.out, ?_⟩
    clear HK K
    try simp only [Act.put, lzA, lzB, lzC, lzD, lzE, lzF]
    refine bO 8 (by kernel_rfl) rfl ?_
    intro K HK
    refine wanted_go rfl ?_
    try simp only [lzA, lzB, lzC]
    refine wp_store_cell (.tmp 181) (.tmp 179) (v := .slice a10 ns c10) (new := #[.slice al8 qh.log.length cl8, .int .i64 qh.boot, .int .i64 qh.next, .slice ao8 qh.opn.length co8, .slice ah x.houses.length ch, .slice a10 ns c10]) rfl rfl (by rfl) (by rfl) R211.out info_nets (by simp) (by rfl) (by rfl) ?_
    intro w12 r12 g12
    have R212 := Lib.hid r12
    have R412 := Lib.hid (row_by R411.out g12 (by intro e; have := Option.some.inj e; omega))
    have HN12 := Lib.hid (HN11.out.mono (dm_box g12 (by omega)))
    have HX12 := Lib.hid (HX11.out.mono (dm_box g12 (by omega)))
    have G12 := Lib.hid (G11.out.grown g12 (fun q hq => by have := Option.some.inj hq; omega))
    clear r12 g12
    refine HK.out _ _ ⟨fun h => absurd rfl h, ?_⟩
    clear HK K
    try simp only [Act.put]
    refine but_done (by kernel_rfl) ?_
    obtain ⟨c0, c1, c2, c3, c4, c5⟩ := cells6 R212.out
    have z2 : w.heap.size < w12.heap.size := (Array.getElem?_eq_some_iff.1 R212.out).1
    go_wp2_with (first | (refine wpList_store_row rfl (.tmp 4) (.tmp 262) rfl rfl rfl R412.out info_wd rfl rfl ?_))
    intro w7y r7 g7
    obtain ⟨p0, p1, p2, p3, p4, p5⟩ := cells6 r7
    clear c0 c1 c2 c3 c4 c5
    go_wp2
    refine bodyPost_ret (v := .tuple #[.agg #[.slice al8 qh.log.length cl8, .int .i64 qh.boot, .int .i64 qh.next, .slice ao8 qh.opn.length co8, .slice ah x.houses.length ch, .slice a10 ns c10], .int .i64 0]) (by simp [results, Try.results138, go_sem, p0, p1, p2, p3, p4, p5]) rfl ?_
    have G7 := G12.out.grown g7 (fun q hq => by simp at hq; omega)
    rw [HE0.out, HE2.out]
    have hsub : Sub (dm c w w12) (ov c w w7y) := (dm_box g7 (by omega)).trans (dm_end _ _ _)
    exact ⟨_, rfl, Of.wd_mk (HX12.out.mono hsub) (HQ2.out.mono (ov_in HC.out)) (HN12.out.mono hsub), G7⟩
   ·intro K HK
    try simp only [lzA, lzB, lzC]
    go_simp
    refine HK.out _ _ ⟨fun _ => HS.out _ GD, ?_⟩
    clear HK K
    try simp only [Act.put, lzA, lzB, lzC, lzD, lzE, lzF]
    refine bO 4 (by kernel_rfl) rfl ?_
    intro K HK
    try simp only [lzA, lzB, lzC]
    go_simp
    go_at_call 70
    refine (ref_sendC (c := dm c w w8) (l := (x.net.eraseIdx i).map bytesM) (ms := qm) _ ((dm_sub HC.out G8.out).trans (Grow.sub GD)) HN8.out (HY8.out.mono ((dm_sub HC.out G8.out).trans (Grow.sub GD))) HSYH.out (by rw [List.length_map]; have := HLE.out; omega)).mono ?_
    rintro e10 w10 ⟨v10, rfl, hn10, hb10⟩
    rw [send_map] at hn10
    obtain ⟨a10, c10, rfl, -⟩ := id hn10
    have G10 := Lib.hid (Grow.trans GD hb10)
    have HN10 := Lib.hid (hn10.mono (dm_past (w8 := w10) G10.out (fun _ _ _ e => e) (by have := HW8.out; have := (GD).size; omega)))
    clear hn10 hb10
    generalize ((sendA (x.net.eraseIdx i) qm).map bytesM).length = ns at *
    refine HK.out _ _ ⟨fun _ => HS.out _ G10.out, ?_⟩
    clear HK K
    try simp only [Act.put, lzA, lzB, lzC, lzD, lzE, lzF]
    refine bO 6 (by kernel_rfl) rfl ?_
    intro K HK
    refine wanted_go rfl ?_
    try simp only [lzA, lzB, lzC]
    refine wp_store_part (.tmp 180) (.tmp 175) (p := 0) (cells := #[.slice al8 qh.log.length cl8, .int .i64 qh.boot, .int .i64 qh.next, .slice ao8 qh.opn.length co8]) (new := #[.slice al8 qh.log.length cl8, .int .i64 qh.boot, .int .i64 qh.next, .slice ao8 qh.opn.length co8, .slice ah x.houses.length ch, .slice a9 n9 c9]) rfl rfl (by rfl) (row_grow R28.out G10.out) info_hd (by simp) (by rfl) (by rfl) ?_
    intro w11 r11 g11
    have R211 := Lib.hid r11
    have HG11 := Lib.hid g11
    have R411 := Lib.hid (row_by (row_grow R48.out G10.out) g11 (by intro e; have := Option.some.inj e; omega))
    have HN11 := Lib.hid (HN10.out.mono (dm_box g11 (by omega)))
    have HX11 := Lib.hid ((HX8.out.mono (dm_grow G10.out)).mono (dm_box g11 (by omega)))
    have G11 := Lib.hid ((G8.out.trans G10.out).grown g11 (fun q hq => by have := Option.some.inj hq; omega))
    have HS11 : Hid (w11.cell? ⟨BH, 0, none⟩ = some (.slice al8 qh.log.length cl8) ∧ w11.cell? ⟨BH, 1, none⟩ = some (.int .i64 qh.boot) ∧ w11.cell? ⟨BH, 2, none⟩ = some (.int .i64 qh.next) ∧ w11.cell? ⟨BH, 3, none⟩ = some (.slice ao8 qh.opn.length co8) ∧ w11.cell? ⟨w.heap.size, 5, none⟩ = some (.slice a9 n9 c9)) := Lib.hid (by obtain ⟨k0, k1, k2, k3, -⟩ := HS.out _ G10.out; obtain ⟨-, -, -, -, -, j5⟩ := cells6 r11; have hne : BH ≠ w.heap.size := HBHN.out; exact ⟨cell_past k0 g11 hne, cell_past k1 g11 hne, cell_past k2 g11 hne, cell_past k3 g11 hne, j5⟩)
    clear r11 g11
    refine HK.out _ _ ⟨fun _ => HS11.out, ?_⟩
    clear HK K
    try simp only [Act.put]
    refine bO 7 (by kernel_rfl) rfl ?_
    intro K HK
    try simp only [lzA, lzB, lzC]
    go_simp
    refine HK.out _ _ ⟨fun _ => HS11.out, ?_⟩
    clear HK K
    try simp only [Act.put, lzA, lzB, lzC, lzD, lzE, lzF]
    refine bO 8 (by kernel_rfl) rfl ?_
    intro K HK
    refine wanted_go rfl ?_
    try simp only [lzA, lzB, lzC]
    refine wp_store_cell (.tmp 181) (.tmp 179) (v := .slice a10 ns c10) (new := #[.slice al8 qh.log.length cl8, .int .i64 qh.boot, .int .i64 qh.next, .slice ao8 qh.opn.length co8, .slice ah x.houses.length ch, .slice a10 ns c10]) rfl rfl (by rfl) (by rfl) R211.out info_nets (by simp) (by rfl) (by rfl) ?_
    intro w12 r12 g12
    have R212 := Lib.hid r12
    have R412 := Lib.hid (row_by R411.out g12 (by intro e; have := Option.some.inj e; omega))
    have HN12 := Lib.hid (HN11.out.mono (dm_box g12 (by omega)))
    have HX12 := Lib.hid (HX11.out.mono (dm_box g12 (by omega)))
    have G12 := Lib.hid (G11.out.grown g12 (fun q hq => by have := Option.some.inj hq; omega))
    clear r12 g12
    refine HK.out _ _ ⟨fun h => absurd rfl h, ?_⟩
    clear HK K
    try simp only [Act.put]
    refine but_done (by kernel_rfl) ?_
    obtain ⟨c0, c1, c2, c3, c4, c5⟩ := cells6 R212.out
    have z2 : w.heap.size < w12.heap.size := (Array.getElem?_eq_some_iff.1 R212.out).1
    go_wp2_with (first | (refine wpList_store_row rfl (.tmp 4) (.tmp 262) rfl rfl rfl R412.out info_wd rfl rfl ?_))
    intro w7y r7 g7
    obtain ⟨p0, p1, p2, p3, p4, p5⟩ := cells6 r7
    clear c0 c1 c2 c3 c4 c5
    go_wp2
    refine bodyPost_ret (v := .tuple #[.agg #[.slice al8 qh.log.length cl8, .int .i64 qh.boot, .int .i64 qh.next, .slice ao8 qh.opn.length co8, .slice ah x.houses.length ch, .slice a10 ns c10], .int .i64 0]) (by simp [results, Try.results138, go_sem, p0, p1, p2, p3, p4, p5]) rfl ?_
    have G7 := G12.out.grown g7 (fun q hq => by simp at hq; omega)
    rw [HE0.out, HE2.out]
    have hsub : Sub (dm c w w12) (ov c w w7y) := (dm_box g7 (by omega)).trans (dm_end _ _ _)
    exact ⟨_, rfl, Of.wd_mk (HX12.out.mono hsub) (HQ2.out.mono (ov_in HC.out)) (HN12.out.mono hsub), G7⟩
set_option maxRecDepth 100000 in
set_option maxHeartbeats 4000000 in
theorem ref_do_fall3 {c : CM} {v vs : Value} {x : AW} {sn : Int} {sp : List Pt} {n : Nat} {G : Reg} {k : Nat} (w : World) (hc : Sub c w.cell?) (hv : Of Ty.wd c v x) (hs : Of Ty.st c vs ⟨5, sn, sp⟩) (hi : WI n G x) (hf : Few k x) (hk : k ≤ 1000) (h3 : sn = 3) :
  Calls Try.prog 138 #[v, vs] w fun e w' => ∃ v', e = .returned (.tuple #[v', .int .i64 (doErr x ⟨5, sn, sp⟩)]) ∧ Of Ty.wd (ov c w w') v' (doA x ⟨5, sn, sp⟩) ∧ Grow w w' := by
 obtain ⟨al, cl, ao, co, ah, ch, an, cn, rfl⟩ := hv.wd_form
 obtain ⟨ap, cp, rfl⟩ := hs.st_form
 obtain ⟨q1, q2, q3⟩ := hv.wd_parts
 have HQ1 := Lib.hid q1
 have HQ2 := Lib.hid q2
 have HQ3 := Lib.hid q3
 have HSP := Lib.hid hs.st_parts
 have HHD := Lib.hid (hi.hdok hf hk)
 have HWI := Lib.hid hi
 have HV := Lib.hid hv
 have HC := Lib.hid hc
 have H3 := Lib.hid h3
 clear h3
 clear hc hv hs q1 q2 q3 hi hf
 obtain ⟨wa, hwa⟩ : ∃ y : World, y = w.alloc (.cells #[.slice al x.head.log.length cl, .int .i64 x.head.boot, .int .i64 x.head.next, .slice ao x.head.opn.length co, .slice ah x.houses.length ch, .slice an x.net.length cn] 93) := ⟨_, rfl⟩
 obtain ⟨wb, hwb⟩ : ∃ y : World, y = wa.alloc (.cells #[.int .i64 5, .int .i64 sn, .slice ap sp.length cp] 164) := ⟨_, rfl⟩
 obtain ⟨wz, hwz⟩ : ∃ y : World, y = wb.alloc (.cells #[.slice none 0 0, .int .i64 0, .int .i64 0, .slice none 0 0, .slice none 0 0, .slice none 0 0] 93) := ⟨_, rfl⟩
 have hsa : wa.heap.size = w.heap.size + 1 := by rw [hwa]; simp
 have hsb : wb.heap.size = w.heap.size + 2 := by rw [hwb]; simp [hsa]
 have R2 : Hid (wz.heap[w.heap.size]? = some (.cells #[.slice al x.head.log.length cl, .int .i64 x.head.boot, .int .i64 x.head.next, .slice ao x.head.opn.length co, .slice ah x.houses.length ch, .slice an x.net.length cn] 93 (0, 0))) := Lib.hid (by rw [hwz, hwb, hwa]; exact heap_later (heap_later (row_new _ _) _) _)
 have R3 : Hid (wz.heap[w.heap.size + 1]? = some (.cells #[.int .i64 5, .int .i64 sn, .slice ap sp.length cp] 164 (0, 0))) := Lib.hid (by rw [hwz, hwb, ← hsa]; exact heap_later (row_new _ _) _)
 have R4 : Hid (wz.heap[w.heap.size + 2]? = some (.cells #[.slice none 0 0, .int .i64 0, .int .i64 0, .slice none 0 0, .slice none 0 0, .slice none 0 0] 93 (0, 0))) := Lib.hid (by rw [hwz, ← hsb]; exact row_new _ _)
 have G1 : Hid (Grow w wz) := Lib.hid (by rw [hwz, hwb, hwa]; exact (((Grow.refl w).alloc _).alloc _).alloc _)
 have HZ : Hid (wz.heap.size = w.heap.size + 3) := Lib.hid (by rw [hwz]; simp [hsb])
 go_enter Try.func138, Try.ntmps138
 go_upto_region 1 with fail
 rw [← hwa]
 try rw [hsa]
 rw [← hwb]
 try rw [hsb]
 rw [← hwz]
 clear hwa hwb hwz hsa hsb
 obtain ⟨c0, c1, c2, c3, c4, c5⟩ := cells6 R2.out
 obtain ⟨d0, d1, d2⟩ := cells3 R3.out
 have z2 : w.heap.size < wz.heap.size := (Array.getElem?_eq_some_iff.1 R2.out).1
 have z3 : w.heap.size + 1 < wz.heap.size := (Array.getElem?_eq_some_iff.1 R3.out).1
 go_cut [6] from 22 (fun s6 wc => s6 = .bool (there x sn) ∧ wz = wc)
 case first =>
  by_cases h0 : 0 ≤ sn
  ·by_cases h1 : sn < (x.net.length : Int)
   ·go_wp2
    go_meet
    case rel => exact ⟨by first | rfl | (simp [there, h0, h1]; done), rfl⟩
   ·go_wp2
    go_meet
    case rel => exact ⟨by first | rfl | (simp [there, h0, h1]; done) | (simp [there, h0]; omega), rfl⟩
  ·go_wp2
   go_meet
   case rel => exact ⟨by first | rfl | (simp [there]; done) | (simp [there]; omega), rfl⟩
 case rest =>
 obtain ⟨rfl, rfl⟩ := hcut
 have hE : doA x ⟨5, sn, sp⟩ = { x with head := fallH x.head } := by unfold doA; simp [H3.out]
 have hE2 : doErr x ⟨5, sn, sp⟩ = fallE x.head := by unfold doErr; simp [H3.out]
 have HE := Lib.hid hE
 have HE2 := Lib.hid hE2
 have hb33 : (sn == 3) = true := by simp [H3.out]
 clear hE hE2 H3
 go_wp2_with fail
 refine (ref_fall (c := c) wz (HC.out.trans G1.out.sub) HQ1.out HHD.out).mono ?_
 rintro e w1 ⟨v1, rfl, hx1, hb1⟩
 obtain ⟨al2, cl2, ao2, co2, rfl⟩ := hx1.hd_form
 have HX1 := Lib.hid hx1
 have R21 := Lib.hid (row_grow R2.out hb1)
 have R41 := Lib.hid (row_grow R4.out hb1)
 have GZ1 := Lib.hid hb1
 clear hx1 hb1 c0 c1 c2 c3 c4 c5 d0 d1 d2 z2 z3
 generalize hqh : fallH x.head = qh at *
 generalize hqe : fallE x.head = qe at *
 clear hqh hqe
 go_upto_region 35 with fail
 obtain ⟨w2, hw2⟩ : ∃ y : World, y = w1.alloc (.cells #[.slice al2 qh.log.length cl2, .int .i64 qh.boot, .int .i64 qh.next, .slice ao2 qh.opn.length co2] 57) := ⟨_, rfl⟩
 obtain ⟨BH, hBH⟩ : ∃ y, y = w1.heap.size := ⟨_, rfl⟩
 have G12 : Hid (Grow w1 w2) := Lib.hid (by rw [hw2]; exact (Grow.refl _).alloc _)
 have RH : Hid (w2.heap[BH]? = some (.cells #[.slice al2 qh.log.length cl2, .int .i64 qh.boot, .int .i64 qh.next, .slice ao2 qh.opn.length co2] 57 (0, 0))) := Lib.hid (by rw [hw2, hBH]; exact row_new _ _)
 rw [← hw2, ← hBH]
 clear hw2 hBH
 have R22 := Lib.hid (row_grow R21.out G12.out)
 have R42 := Lib.hid (row_grow R41.out G12.out)
 have GW2 := Lib.hid (G1.out.trans (GZ1.out.trans G12.out))
 obtain ⟨k0, k1, k2, k3⟩ := cells4 RH.out
 have zh : BH < w2.heap.size := (Array.getElem?_eq_some_iff.1 RH.out).1
 go_wp2_with (first | (refine wpList_store_part rfl (.tmp 194) (.tmp 193) (p := 0) (cells := #[.slice al2 qh.log.length cl2, .int .i64 qh.boot, .int .i64 qh.next, .slice ao2 qh.opn.length co2]) (new := #[.slice al2 qh.log.length cl2, .int .i64 qh.boot, .int .i64 qh.next, .slice ao2 qh.opn.length co2, .slice ah x.houses.length ch, .slice an x.net.length cn]) rfl rfl (by rfl) R22.out info_hd (by simp) (by rfl) (by rfl) ?_))
 intro w4 r4 g4
 have R44 := Lib.hid r4
 have HG4 := Lib.hid g4
 have R45 := Lib.hid (row_by R42.out g4 (by intro e; have := Option.some.inj e; omega))
 have G5 := Lib.hid (GW2.out.grown g4 (fun q hq => by simp at hq; omega))
 clear r4 g4 k0 k1 k2 k3 zh
 obtain ⟨c0, c1, c2, c3, c4, c5⟩ := cells6 R44.out
 have z2 : w.heap.size < w4.heap.size := (Array.getElem?_eq_some_iff.1 R44.out).1
 go_wp2_with (first | (refine wpList_store_row rfl (.tmp 4) (.tmp 195) rfl rfl rfl R45.out info_wd rfl rfl ?_))
 intro w7 r7 g7
 obtain ⟨p0, p1, p2, p3, p4, p5⟩ := cells6 r7
 clear c0 c1 c2 c3 c4 c5
 go_wp2
 refine bodyPost_ret (v := .tuple #[.agg #[.slice al2 qh.log.length cl2, .int .i64 qh.boot, .int .i64 qh.next, .slice ao2 qh.opn.length co2, .slice ah x.houses.length ch, .slice an x.net.length cn], .int .i64 qe]) (by simp [results, Try.results138, go_sem, p0, p1, p2, p3, p4, p5]) rfl ?_
 have G7 := G5.out.grown g7 (fun q hq => by simp at hq; omega)
 rw [HE.out, HE2.out]
 refine ⟨_, rfl, Of.wd_mk ?_ (HQ2.out.mono (ov_in HC.out)) (HQ3.out.mono (ov_in HC.out)), G7⟩
 refine HX1.out.mono fun a u e => ?_
 have e1 := ov_mono (Sub.refl _) G12.out a u e
 have e4 := ov_past (w := w) HG4.out (Nat.le_refl _) (by have := HZ.out; omega) a u e1
 have e7 := ov_past (w := w) g7 (by omega) (by have := HZ.out; omega) a u e4
 exact ovz_sub HC.out G1.out a u e7
set_option maxRecDepth 100000 in
set_option maxHeartbeats 4000000 in
theorem ref_do_fallH {c : CM} {v vs : Value} {x : AW} {sn : Int} {sp : List Pt} {n : Nat} {G : Reg} {k : Nat} (w : World) (hc : Sub c w.cell?) (hv : Of Ty.wd c v x) (hs : Of Ty.st c vs ⟨5, sn, sp⟩) (hi : WI n G x) (hf : Few k x) (hk : k ≤ 1000) (h3 : ¬ sn = 3) :
  Calls Try.prog 138 #[v, vs] w fun e w' => ∃ v', e = .returned (.tuple #[v', .int .i64 (doErr x ⟨5, sn, sp⟩)]) ∧ Of Ty.wd (ov c w w') v' (doA x ⟨5, sn, sp⟩) ∧ Grow w w' := by
 obtain ⟨al, cl, ao, co, ah, ch, an, cn, rfl⟩ := hv.wd_form
 obtain ⟨ap, cp, rfl⟩ := hs.st_form
 obtain ⟨q1, q2, q3⟩ := hv.wd_parts
 have HQ1 := Lib.hid q1
 have HQ2 := Lib.hid q2
 have HQ3 := Lib.hid q3
 have HSP := Lib.hid hs.st_parts
 have HHD := Lib.hid (hi.hdok hf hk)
 have HWI := Lib.hid hi
 have HV := Lib.hid hv
 have HC := Lib.hid hc
 clear hc hv hs q1 q2 q3 hi hf
 obtain ⟨wa, hwa⟩ : ∃ y : World, y = w.alloc (.cells #[.slice al x.head.log.length cl, .int .i64 x.head.boot, .int .i64 x.head.next, .slice ao x.head.opn.length co, .slice ah x.houses.length ch, .slice an x.net.length cn] 93) := ⟨_, rfl⟩
 obtain ⟨wb, hwb⟩ : ∃ y : World, y = wa.alloc (.cells #[.int .i64 5, .int .i64 sn, .slice ap sp.length cp] 164) := ⟨_, rfl⟩
 obtain ⟨wz, hwz⟩ : ∃ y : World, y = wb.alloc (.cells #[.slice none 0 0, .int .i64 0, .int .i64 0, .slice none 0 0, .slice none 0 0, .slice none 0 0] 93) := ⟨_, rfl⟩
 have hsa : wa.heap.size = w.heap.size + 1 := by rw [hwa]; simp
 have hsb : wb.heap.size = w.heap.size + 2 := by rw [hwb]; simp [hsa]
 have R2 : Hid (wz.heap[w.heap.size]? = some (.cells #[.slice al x.head.log.length cl, .int .i64 x.head.boot, .int .i64 x.head.next, .slice ao x.head.opn.length co, .slice ah x.houses.length ch, .slice an x.net.length cn] 93 (0, 0))) := Lib.hid (by rw [hwz, hwb, hwa]; exact heap_later (heap_later (row_new _ _) _) _)
 have R3 : Hid (wz.heap[w.heap.size + 1]? = some (.cells #[.int .i64 5, .int .i64 sn, .slice ap sp.length cp] 164 (0, 0))) := Lib.hid (by rw [hwz, hwb, ← hsa]; exact heap_later (row_new _ _) _)
 have R4 : Hid (wz.heap[w.heap.size + 2]? = some (.cells #[.slice none 0 0, .int .i64 0, .int .i64 0, .slice none 0 0, .slice none 0 0, .slice none 0 0] 93 (0, 0))) := Lib.hid (by rw [hwz, ← hsb]; exact row_new _ _)
 have G1 : Hid (Grow w wz) := Lib.hid (by rw [hwz, hwb, hwa]; exact (((Grow.refl w).alloc _).alloc _).alloc _)
 have HZ : Hid (wz.heap.size = w.heap.size + 3) := Lib.hid (by rw [hwz]; simp [hsb])
 go_enter Try.func138, Try.ntmps138
 go_upto_region 1 with fail
 rw [← hwa]
 try rw [hsa]
 rw [← hwb]
 try rw [hsb]
 rw [← hwz]
 clear hwa hwb hwz hsa hsb
 obtain ⟨c0, c1, c2, c3, c4, c5⟩ := cells6 R2.out
 obtain ⟨d0, d1, d2⟩ := cells3 R3.out
 have z2 : w.heap.size < wz.heap.size := (Array.getElem?_eq_some_iff.1 R2.out).1
 have z3 : w.heap.size + 1 < wz.heap.size := (Array.getElem?_eq_some_iff.1 R3.out).1
 go_cut [6] from 22 (fun s6 wc => s6 = .bool (there x sn) ∧ wz = wc)
 case first =>
  by_cases h0 : 0 ≤ sn
  ·by_cases h1 : sn < (x.net.length : Int)
   ·go_wp2
    go_meet
    case rel => exact ⟨by first | rfl | (simp [there, h0, h1]; done), rfl⟩
   ·go_wp2
    go_meet
    case rel => exact ⟨by first | rfl | (simp [there, h0, h1]; done) | (simp [there, h0]; omega), rfl⟩
  ·go_wp2
   go_meet
   case rel => exact ⟨by first | rfl | (simp [there]; done) | (simp [there]; omega), rfl⟩
 case rest =>
 obtain ⟨rfl, rfl⟩ := hcut
 have hE : doA x ⟨5, sn, sp⟩ = x := by unfold doA; simp [h3]
 have HE := Lib.hid hE
 have hb33 : (sn == 3) = false := by simp [h3]
 by_cases hl : sn < 0
 ·have HE2 : Hid (doErr x ⟨5, sn, sp⟩ = 6) := Lib.hid (by unfold doErr hereN; simp [h3]; omega)
  clear hE h3
  go_wp2_with (first | (refine wpList_store_row rfl (.tmp 4) (.tmp 208) rfl rfl rfl R4.out info_wd rfl rfl ?_))
  intro w7 r7 g7
  obtain ⟨p0, p1, p2, p3, p4, p5⟩ := cells6 r7
  clear c0 c1 c2 c3 c4 c5
  go_wp2
  refine bodyPost_ret (v := .tuple #[.agg #[.slice al x.head.log.length cl, .int .i64 x.head.boot, .int .i64 x.head.next, .slice ao x.head.opn.length co, .slice ah x.houses.length ch, .slice an x.net.length cn], .int .i64 6]) (by simp [results, Try.results138, go_sem, p0, p1, p2, p3, p4, p5]) rfl ?_
  have G7 := G1.out.grown g7 (fun q hq => by simp at hq; omega)
  rw [HE.out, HE2.out]
  exact ⟨_, rfl, HV.out.mono (ov_in HC.out), G7⟩
 by_cases hg : (x.houses.length : Int) ≤ sn
 ·have HE2 : Hid (doErr x ⟨5, sn, sp⟩ = 6) := Lib.hid (by unfold doErr hereN; simp [h3]; omega)
  clear hE h3
  go_wp2_with (first | (refine wpList_store_row rfl (.tmp 4) (.tmp 208) rfl rfl rfl R4.out info_wd rfl rfl ?_))
  intro w7 r7 g7
  obtain ⟨p0, p1, p2, p3, p4, p5⟩ := cells6 r7
  clear c0 c1 c2 c3 c4 c5
  go_wp2
  refine bodyPost_ret (v := .tuple #[.agg #[.slice al x.head.log.length cl, .int .i64 x.head.boot, .int .i64 x.head.next, .slice ao x.head.opn.length co, .slice ah x.houses.length ch, .slice an x.net.length cn], .int .i64 6]) (by simp [results, Try.results138, go_sem, p0, p1, p2, p3, p4, p5]) rfl ?_
  have G7 := G1.out.grown g7 (fun q hq => by simp at hq; omega)
  rw [HE.out, HE2.out]
  exact ⟨_, rfl, HV.out.mono (ov_in HC.out), G7⟩
 have HE2 : Hid (doErr x ⟨5, sn, sp⟩ = 0) := Lib.hid (by unfold doErr hereN; simp [h3]; omega)
 clear hE h3
 go_wp2_with (first | (refine wpList_store_row rfl (.tmp 4) (.tmp 262) rfl rfl rfl R4.out info_wd rfl rfl ?_))
 intro w7 r7 g7
 obtain ⟨p0, p1, p2, p3, p4, p5⟩ := cells6 r7
 clear c0 c1 c2 c3 c4 c5
 go_wp2
 refine bodyPost_ret (v := .tuple #[.agg #[.slice al x.head.log.length cl, .int .i64 x.head.boot, .int .i64 x.head.next, .slice ao x.head.opn.length co, .slice ah x.houses.length ch, .slice an x.net.length cn], .int .i64 0]) (by simp [results, Try.results138, go_sem, p0, p1, p2, p3, p4, p5]) rfl ?_
 have G7 := G1.out.grown g7 (fun q hq => by simp at hq; omega)
 rw [HE.out, HE2.out]
 exact ⟨_, rfl, HV.out.mono (ov_in HC.out), G7⟩
set_option maxRecDepth 100000 in
set_option maxHeartbeats 4000000 in
theorem ref_do_none2 {c : CM} {v vs : Value} {x : AW} {sn : Int} {sp : List Pt} {n : Nat} {G : Reg} {k : Nat} (w : World) (hc : Sub c w.cell?) (hv : Of Ty.wd c v x) (hs : Of Ty.st c vs ⟨2, sn, sp⟩) (hi : WI n G x) (hf : Few k x) (hk : k ≤ 1000) (ht : there x sn = false) :
  Calls Try.prog 138 #[v, vs] w fun e w' => ∃ v', e = .returned (.tuple #[v', .int .i64 (doErr x ⟨2, sn, sp⟩)]) ∧ Of Ty.wd (ov c w w') v' (doA x ⟨2, sn, sp⟩) ∧ Grow w w' := by
 obtain ⟨al, cl, ao, co, ah, ch, an, cn, rfl⟩ := hv.wd_form
 obtain ⟨ap, cp, rfl⟩ := hs.st_form
 obtain ⟨q1, q2, q3⟩ := hv.wd_parts
 have HQ1 := Lib.hid q1
 have HQ2 := Lib.hid q2
 have HQ3 := Lib.hid q3
 have HSP := Lib.hid hs.st_parts
 have HHD := Lib.hid (hi.hdok hf hk)
 have HWI := Lib.hid hi
 have HV := Lib.hid hv
 have HC := Lib.hid hc
 clear hc hv hs q1 q2 q3 hi hf
 obtain ⟨wa, hwa⟩ : ∃ y : World, y = w.alloc (.cells #[.slice al x.head.log.length cl, .int .i64 x.head.boot, .int .i64 x.head.next, .slice ao x.head.opn.length co, .slice ah x.houses.length ch, .slice an x.net.length cn] 93) := ⟨_, rfl⟩
 obtain ⟨wb, hwb⟩ : ∃ y : World, y = wa.alloc (.cells #[.int .i64 2, .int .i64 sn, .slice ap sp.length cp] 164) := ⟨_, rfl⟩
 obtain ⟨wz, hwz⟩ : ∃ y : World, y = wb.alloc (.cells #[.slice none 0 0, .int .i64 0, .int .i64 0, .slice none 0 0, .slice none 0 0, .slice none 0 0] 93) := ⟨_, rfl⟩
 have hsa : wa.heap.size = w.heap.size + 1 := by rw [hwa]; simp
 have hsb : wb.heap.size = w.heap.size + 2 := by rw [hwb]; simp [hsa]
 have R2 : Hid (wz.heap[w.heap.size]? = some (.cells #[.slice al x.head.log.length cl, .int .i64 x.head.boot, .int .i64 x.head.next, .slice ao x.head.opn.length co, .slice ah x.houses.length ch, .slice an x.net.length cn] 93 (0, 0))) := Lib.hid (by rw [hwz, hwb, hwa]; exact heap_later (heap_later (row_new _ _) _) _)
 have R3 : Hid (wz.heap[w.heap.size + 1]? = some (.cells #[.int .i64 2, .int .i64 sn, .slice ap sp.length cp] 164 (0, 0))) := Lib.hid (by rw [hwz, hwb, ← hsa]; exact heap_later (row_new _ _) _)
 have R4 : Hid (wz.heap[w.heap.size + 2]? = some (.cells #[.slice none 0 0, .int .i64 0, .int .i64 0, .slice none 0 0, .slice none 0 0, .slice none 0 0] 93 (0, 0))) := Lib.hid (by rw [hwz, ← hsb]; exact row_new _ _)
 have G1 : Hid (Grow w wz) := Lib.hid (by rw [hwz, hwb, hwa]; exact (((Grow.refl w).alloc _).alloc _).alloc _)
 have HZ : Hid (wz.heap.size = w.heap.size + 3) := Lib.hid (by rw [hwz]; simp [hsb])
 go_enter Try.func138, Try.ntmps138
 go_upto_region 1 with fail
 rw [← hwa]
 try rw [hsa]
 rw [← hwb]
 try rw [hsb]
 rw [← hwz]
 clear hwa hwb hwz hsa hsb
 obtain ⟨c0, c1, c2, c3, c4, c5⟩ := cells6 R2.out
 obtain ⟨d0, d1, d2⟩ := cells3 R3.out
 have z2 : w.heap.size < wz.heap.size := (Array.getElem?_eq_some_iff.1 R2.out).1
 have z3 : w.heap.size + 1 < wz.heap.size := (Array.getElem?_eq_some_iff.1 R3.out).1
 go_cut [6] from 22 (fun s6 wc => s6 = .bool (there x sn) ∧ wz = wc)
 case first =>
  by_cases h0 : 0 ≤ sn
  ·by_cases h1 : sn < (x.net.length : Int)
   ·go_wp2
    go_meet
    case rel => exact ⟨by first | rfl | (simp [there, h0, h1]; done), rfl⟩
   ·go_wp2
    go_meet
    case rel => exact ⟨by first | rfl | (simp [there, h0, h1]; done) | (simp [there, h0]; omega), rfl⟩
  ·go_wp2
   go_meet
   case rel => exact ⟨by first | rfl | (simp [there]; done) | (simp [there]; omega), rfl⟩
 case rest =>
 obtain ⟨rfl, rfl⟩ := hcut
 have hE : doA x ⟨2, sn, sp⟩ = x := by unfold doA; simp [ht]
 have hE2 : doErr x ⟨2, sn, sp⟩ = 6 := by unfold doErr; simp [ht]
 have HE := Lib.hid hE
 have HE2 := Lib.hid hE2
 clear hE hE2
 rw [ht]
 go_wp2_with (first | (refine wpList_store_row rfl (.tmp 4) (.tmp 72) rfl rfl rfl R4.out info_wd rfl rfl ?_))
 intro w7 r7 g7
 obtain ⟨p0, p1, p2, p3, p4, p5⟩ := cells6 r7
 clear c0 c1 c2 c3 c4 c5
 go_wp2
 refine bodyPost_ret (v := .tuple #[.agg #[.slice al x.head.log.length cl, .int .i64 x.head.boot, .int .i64 x.head.next, .slice ao x.head.opn.length co, .slice ah x.houses.length ch, .slice an x.net.length cn], .int .i64 6]) (by simp [results, Try.results138, go_sem, p0, p1, p2, p3, p4, p5]) rfl ?_
 have G7 := G1.out.grown g7 (fun q hq => by simp at hq; omega)
 rw [HE.out, HE2.out]
 exact ⟨_, rfl, HV.out.mono (ov_in HC.out), G7⟩
set_option maxRecDepth 100000 in
set_option maxHeartbeats 4000000 in
theorem ref_do_none3 {c : CM} {v vs : Value} {x : AW} {sn : Int} {sp : List Pt} {n : Nat} {G : Reg} {k : Nat} (w : World) (hc : Sub c w.cell?) (hv : Of Ty.wd c v x) (hs : Of Ty.st c vs ⟨3, sn, sp⟩) (hi : WI n G x) (hf : Few k x) (hk : k ≤ 1000) (ht : there x sn = false) :
  Calls Try.prog 138 #[v, vs] w fun e w' => ∃ v', e = .returned (.tuple #[v', .int .i64 (doErr x ⟨3, sn, sp⟩)]) ∧ Of Ty.wd (ov c w w') v' (doA x ⟨3, sn, sp⟩) ∧ Grow w w' := by
 obtain ⟨al, cl, ao, co, ah, ch, an, cn, rfl⟩ := hv.wd_form
 obtain ⟨ap, cp, rfl⟩ := hs.st_form
 obtain ⟨q1, q2, q3⟩ := hv.wd_parts
 have HQ1 := Lib.hid q1
 have HQ2 := Lib.hid q2
 have HQ3 := Lib.hid q3
 have HSP := Lib.hid hs.st_parts
 have HHD := Lib.hid (hi.hdok hf hk)
 have HWI := Lib.hid hi
 have HV := Lib.hid hv
 have HC := Lib.hid hc
 clear hc hv hs q1 q2 q3 hi hf
 obtain ⟨wa, hwa⟩ : ∃ y : World, y = w.alloc (.cells #[.slice al x.head.log.length cl, .int .i64 x.head.boot, .int .i64 x.head.next, .slice ao x.head.opn.length co, .slice ah x.houses.length ch, .slice an x.net.length cn] 93) := ⟨_, rfl⟩
 obtain ⟨wb, hwb⟩ : ∃ y : World, y = wa.alloc (.cells #[.int .i64 3, .int .i64 sn, .slice ap sp.length cp] 164) := ⟨_, rfl⟩
 obtain ⟨wz, hwz⟩ : ∃ y : World, y = wb.alloc (.cells #[.slice none 0 0, .int .i64 0, .int .i64 0, .slice none 0 0, .slice none 0 0, .slice none 0 0] 93) := ⟨_, rfl⟩
 have hsa : wa.heap.size = w.heap.size + 1 := by rw [hwa]; simp
 have hsb : wb.heap.size = w.heap.size + 2 := by rw [hwb]; simp [hsa]
 have R2 : Hid (wz.heap[w.heap.size]? = some (.cells #[.slice al x.head.log.length cl, .int .i64 x.head.boot, .int .i64 x.head.next, .slice ao x.head.opn.length co, .slice ah x.houses.length ch, .slice an x.net.length cn] 93 (0, 0))) := Lib.hid (by rw [hwz, hwb, hwa]; exact heap_later (heap_later (row_new _ _) _) _)
 have R3 : Hid (wz.heap[w.heap.size + 1]? = some (.cells #[.int .i64 3, .int .i64 sn, .slice ap sp.length cp] 164 (0, 0))) := Lib.hid (by rw [hwz, hwb, ← hsa]; exact heap_later (row_new _ _) _)
 have R4 : Hid (wz.heap[w.heap.size + 2]? = some (.cells #[.slice none 0 0, .int .i64 0, .int .i64 0, .slice none 0 0, .slice none 0 0, .slice none 0 0] 93 (0, 0))) := Lib.hid (by rw [hwz, ← hsb]; exact row_new _ _)
 have G1 : Hid (Grow w wz) := Lib.hid (by rw [hwz, hwb, hwa]; exact (((Grow.refl w).alloc _).alloc _).alloc _)
 have HZ : Hid (wz.heap.size = w.heap.size + 3) := Lib.hid (by rw [hwz]; simp [hsb])
 go_enter Try.func138, Try.ntmps138
 go_upto_region 1 with fail
 rw [← hwa]
 try rw [hsa]
 rw [← hwb]
 try rw [hsb]
 rw [← hwz]
 clear hwa hwb hwz hsa hsb
 obtain ⟨c0, c1, c2, c3, c4, c5⟩ := cells6 R2.out
 obtain ⟨d0, d1, d2⟩ := cells3 R3.out
 have z2 : w.heap.size < wz.heap.size := (Array.getElem?_eq_some_iff.1 R2.out).1
 have z3 : w.heap.size + 1 < wz.heap.size := (Array.getElem?_eq_some_iff.1 R3.out).1
 go_cut [6] from 22 (fun s6 wc => s6 = .bool (there x sn) ∧ wz = wc)
 case first =>
  by_cases h0 : 0 ≤ sn
  ·by_cases h1 : sn < (x.net.length : Int)
   ·go_wp2
    go_meet
    case rel => exact ⟨by first | rfl | (simp [there, h0, h1]; done), rfl⟩
   ·go_wp2
    go_meet
    case rel => exact ⟨by first | rfl | (simp [there, h0, h1]; done) | (simp [there, h0]; omega), rfl⟩
  ·go_wp2
   go_meet
   case rel => exact ⟨by first | rfl | (simp [there]; done) | (simp [there]; omega), rfl⟩
 case rest =>
 obtain ⟨rfl, rfl⟩ := hcut
 have hE : doA x ⟨3, sn, sp⟩ = x := by unfold doA; simp [ht]
 have hE2 : doErr x ⟨3, sn, sp⟩ = 6 := by unfold doErr; simp [ht]
 have HE := Lib.hid hE
 have HE2 := Lib.hid hE2
 clear hE hE2
 rw [ht]
 go_wp2_with (first | (refine wpList_store_row rfl (.tmp 4) (.tmp 72) rfl rfl rfl R4.out info_wd rfl rfl ?_))
 intro w7 r7 g7
 obtain ⟨p0, p1, p2, p3, p4, p5⟩ := cells6 r7
 clear c0 c1 c2 c3 c4 c5
 go_wp2
 refine bodyPost_ret (v := .tuple #[.agg #[.slice al x.head.log.length cl, .int .i64 x.head.boot, .int .i64 x.head.next, .slice ao x.head.opn.length co, .slice ah x.houses.length ch, .slice an x.net.length cn], .int .i64 6]) (by simp [results, Try.results138, go_sem, p0, p1, p2, p3, p4, p5]) rfl ?_
 have G7 := G1.out.grown g7 (fun q hq => by simp at hq; omega)
 rw [HE.out, HE2.out]
 exact ⟨_, rfl, HV.out.mono (ov_in HC.out), G7⟩
set_option maxRecDepth 100000 in
set_option maxHeartbeats 4000000 in
theorem ref_do_none4 {c : CM} {v vs : Value} {x : AW} {sn : Int} {sp : List Pt} {n : Nat} {G : Reg} {k : Nat} (w : World) (hc : Sub c w.cell?) (hv : Of Ty.wd c v x) (hs : Of Ty.st c vs ⟨4, sn, sp⟩) (hi : WI n G x) (hf : Few k x) (hk : k ≤ 1000) (ht : there x sn = false) :
  Calls Try.prog 138 #[v, vs] w fun e w' => ∃ v', e = .returned (.tuple #[v', .int .i64 (doErr x ⟨4, sn, sp⟩)]) ∧ Of Ty.wd (ov c w w') v' (doA x ⟨4, sn, sp⟩) ∧ Grow w w' := by
 obtain ⟨al, cl, ao, co, ah, ch, an, cn, rfl⟩ := hv.wd_form
 obtain ⟨ap, cp, rfl⟩ := hs.st_form
 obtain ⟨q1, q2, q3⟩ := hv.wd_parts
 have HQ1 := Lib.hid q1
 have HQ2 := Lib.hid q2
 have HQ3 := Lib.hid q3
 have HSP := Lib.hid hs.st_parts
 have HHD := Lib.hid (hi.hdok hf hk)
 have HWI := Lib.hid hi
 have HV := Lib.hid hv
 have HC := Lib.hid hc
 clear hc hv hs q1 q2 q3 hi hf
 obtain ⟨wa, hwa⟩ : ∃ y : World, y = w.alloc (.cells #[.slice al x.head.log.length cl, .int .i64 x.head.boot, .int .i64 x.head.next, .slice ao x.head.opn.length co, .slice ah x.houses.length ch, .slice an x.net.length cn] 93) := ⟨_, rfl⟩
 obtain ⟨wb, hwb⟩ : ∃ y : World, y = wa.alloc (.cells #[.int .i64 4, .int .i64 sn, .slice ap sp.length cp] 164) := ⟨_, rfl⟩
 obtain ⟨wz, hwz⟩ : ∃ y : World, y = wb.alloc (.cells #[.slice none 0 0, .int .i64 0, .int .i64 0, .slice none 0 0, .slice none 0 0, .slice none 0 0] 93) := ⟨_, rfl⟩
 have hsa : wa.heap.size = w.heap.size + 1 := by rw [hwa]; simp
 have hsb : wb.heap.size = w.heap.size + 2 := by rw [hwb]; simp [hsa]
 have R2 : Hid (wz.heap[w.heap.size]? = some (.cells #[.slice al x.head.log.length cl, .int .i64 x.head.boot, .int .i64 x.head.next, .slice ao x.head.opn.length co, .slice ah x.houses.length ch, .slice an x.net.length cn] 93 (0, 0))) := Lib.hid (by rw [hwz, hwb, hwa]; exact heap_later (heap_later (row_new _ _) _) _)
 have R3 : Hid (wz.heap[w.heap.size + 1]? = some (.cells #[.int .i64 4, .int .i64 sn, .slice ap sp.length cp] 164 (0, 0))) := Lib.hid (by rw [hwz, hwb, ← hsa]; exact heap_later (row_new _ _) _)
 have R4 : Hid (wz.heap[w.heap.size + 2]? = some (.cells #[.slice none 0 0, .int .i64 0, .int .i64 0, .slice none 0 0, .slice none 0 0, .slice none 0 0] 93 (0, 0))) := Lib.hid (by rw [hwz, ← hsb]; exact row_new _ _)
 have G1 : Hid (Grow w wz) := Lib.hid (by rw [hwz, hwb, hwa]; exact (((Grow.refl w).alloc _).alloc _).alloc _)
 have HZ : Hid (wz.heap.size = w.heap.size + 3) := Lib.hid (by rw [hwz]; simp [hsb])
 go_enter Try.func138, Try.ntmps138
 go_upto_region 1 with fail
 rw [← hwa]
 try rw [hsa]
 rw [← hwb]
 try rw [hsb]
 rw [← hwz]
 clear hwa hwb hwz hsa hsb
 obtain ⟨c0, c1, c2, c3, c4, c5⟩ := cells6 R2.out
 obtain ⟨d0, d1, d2⟩ := cells3 R3.out
 have z2 : w.heap.size < wz.heap.size := (Array.getElem?_eq_some_iff.1 R2.out).1
 have z3 : w.heap.size + 1 < wz.heap.size := (Array.getElem?_eq_some_iff.1 R3.out).1
 go_cut [6] from 22 (fun s6 wc => s6 = .bool (there x sn) ∧ wz = wc)
 case first =>
  by_cases h0 : 0 ≤ sn
  ·by_cases h1 : sn < (x.net.length : Int)
   ·go_wp2
    go_meet
    case rel => exact ⟨by first | rfl | (simp [there, h0, h1]; done), rfl⟩
   ·go_wp2
    go_meet
    case rel => exact ⟨by first | rfl | (simp [there, h0, h1]; done) | (simp [there, h0]; omega), rfl⟩
  ·go_wp2
   go_meet
   case rel => exact ⟨by first | rfl | (simp [there]; done) | (simp [there]; omega), rfl⟩
 case rest =>
 obtain ⟨rfl, rfl⟩ := hcut
 have hE : doA x ⟨4, sn, sp⟩ = x := by unfold doA; simp [ht]
 have hE2 : doErr x ⟨4, sn, sp⟩ = 6 := by unfold doErr; simp [ht]
 have HE := Lib.hid hE
 have HE2 := Lib.hid hE2
 clear hE hE2
 rw [ht]
 go_wp2_with (first | (refine wpList_store_row rfl (.tmp 4) (.tmp 72) rfl rfl rfl R4.out info_wd rfl rfl ?_))
 intro w7 r7 g7
 obtain ⟨p0, p1, p2, p3, p4, p5⟩ := cells6 r7
 clear c0 c1 c2 c3 c4 c5
 go_wp2
 refine bodyPost_ret (v := .tuple #[.agg #[.slice al x.head.log.length cl, .int .i64 x.head.boot, .int .i64 x.head.next, .slice ao x.head.opn.length co, .slice ah x.houses.length ch, .slice an x.net.length cn], .int .i64 6]) (by simp [results, Try.results138, go_sem, p0, p1, p2, p3, p4, p5]) rfl ?_
 have G7 := G1.out.grown g7 (fun q hq => by simp at hq; omega)
 rw [HE.out, HE2.out]
 exact ⟨_, rfl, HV.out.mono (ov_in HC.out), G7⟩
set_option maxRecDepth 100000 in
set_option maxHeartbeats 4000000 in
theorem ref_do_else {c : CM} {v vs : Value} {x : AW} {kd sn : Int} {sp : List Pt} {n : Nat} {G : Reg} {k : Nat} (w : World) (hc : Sub c w.cell?) (hv : Of Ty.wd c v x) (hs : Of Ty.st c vs ⟨kd, sn, sp⟩) (hi : WI n G x) (hf : Few k x) (hk : k ≤ 1000) (hkd : kd < 1 ∨ 7 < kd) :
  Calls Try.prog 138 #[v, vs] w fun e w' => ∃ v', e = .returned (.tuple #[v', .int .i64 (doErr x ⟨kd, sn, sp⟩)]) ∧ Of Ty.wd (ov c w w') v' (doA x ⟨kd, sn, sp⟩) ∧ Grow w w' := by
 obtain ⟨al, cl, ao, co, ah, ch, an, cn, rfl⟩ := hv.wd_form
 obtain ⟨ap, cp, rfl⟩ := hs.st_form
 obtain ⟨q1, q2, q3⟩ := hv.wd_parts
 have HQ1 := Lib.hid q1
 have HQ2 := Lib.hid q2
 have HQ3 := Lib.hid q3
 have HSP := Lib.hid hs.st_parts
 have HHD := Lib.hid (hi.hdok hf hk)
 have HWI := Lib.hid hi
 have HV := Lib.hid hv
 have HC := Lib.hid hc
 clear hc hv hs q1 q2 q3 hi hf
 obtain ⟨wa, hwa⟩ : ∃ y : World, y = w.alloc (.cells #[.slice al x.head.log.length cl, .int .i64 x.head.boot, .int .i64 x.head.next, .slice ao x.head.opn.length co, .slice ah x.houses.length ch, .slice an x.net.length cn] 93) := ⟨_, rfl⟩
 obtain ⟨wb, hwb⟩ : ∃ y : World, y = wa.alloc (.cells #[.int .i64 kd, .int .i64 sn, .slice ap sp.length cp] 164) := ⟨_, rfl⟩
 obtain ⟨wz, hwz⟩ : ∃ y : World, y = wb.alloc (.cells #[.slice none 0 0, .int .i64 0, .int .i64 0, .slice none 0 0, .slice none 0 0, .slice none 0 0] 93) := ⟨_, rfl⟩
 have hsa : wa.heap.size = w.heap.size + 1 := by rw [hwa]; simp
 have hsb : wb.heap.size = w.heap.size + 2 := by rw [hwb]; simp [hsa]
 have R2 : Hid (wz.heap[w.heap.size]? = some (.cells #[.slice al x.head.log.length cl, .int .i64 x.head.boot, .int .i64 x.head.next, .slice ao x.head.opn.length co, .slice ah x.houses.length ch, .slice an x.net.length cn] 93 (0, 0))) := Lib.hid (by rw [hwz, hwb, hwa]; exact heap_later (heap_later (row_new _ _) _) _)
 have R3 : Hid (wz.heap[w.heap.size + 1]? = some (.cells #[.int .i64 kd, .int .i64 sn, .slice ap sp.length cp] 164 (0, 0))) := Lib.hid (by rw [hwz, hwb, ← hsa]; exact heap_later (row_new _ _) _)
 have R4 : Hid (wz.heap[w.heap.size + 2]? = some (.cells #[.slice none 0 0, .int .i64 0, .int .i64 0, .slice none 0 0, .slice none 0 0, .slice none 0 0] 93 (0, 0))) := Lib.hid (by rw [hwz, ← hsb]; exact row_new _ _)
 have G1 : Hid (Grow w wz) := Lib.hid (by rw [hwz, hwb, hwa]; exact (((Grow.refl w).alloc _).alloc _).alloc _)
 have HZ : Hid (wz.heap.size = w.heap.size + 3) := Lib.hid (by rw [hwz]; simp [hsb])
 go_enter Try.func138, Try.ntmps138
 go_upto_region 1 with fail
 rw [← hwa]
 try rw [hsa]
 rw [← hwb]
 try rw [hsb]
 rw [← hwz]
 clear hwa hwb hwz hsa hsb
 obtain ⟨c0, c1, c2, c3, c4, c5⟩ := cells6 R2.out
 obtain ⟨d0, d1, d2⟩ := cells3 R3.out
 have z2 : w.heap.size < wz.heap.size := (Array.getElem?_eq_some_iff.1 R2.out).1
 have z3 : w.heap.size + 1 < wz.heap.size := (Array.getElem?_eq_some_iff.1 R3.out).1
 go_cut [6] from 22 (fun s6 wc => s6 = .bool (there x sn) ∧ wz = wc)
 case first =>
  by_cases h0 : 0 ≤ sn
  ·by_cases h1 : sn < (x.net.length : Int)
   ·go_wp2
    go_meet
    case rel => exact ⟨by first | rfl | (simp [there, h0, h1]; done), rfl⟩
   ·go_wp2
    go_meet
    case rel => exact ⟨by first | rfl | (simp [there, h0, h1]; done) | (simp [there, h0]; omega), rfl⟩
  ·go_wp2
   go_meet
   case rel => exact ⟨by first | rfl | (simp [there]; done) | (simp [there]; omega), rfl⟩
 case rest =>
 obtain ⟨rfl, rfl⟩ := hcut
 have e1 : (kd == 1) = false := by rw [beq_eq_false_iff_ne]; omega
 have e2 : (kd == 2) = false := by rw [beq_eq_false_iff_ne]; omega
 have e3 : (kd == 3) = false := by rw [beq_eq_false_iff_ne]; omega
 have e4 : (kd == 4) = false := by rw [beq_eq_false_iff_ne]; omega
 have e5 : (kd == 5) = false := by rw [beq_eq_false_iff_ne]; omega
 have e6 : (kd == 6) = false := by rw [beq_eq_false_iff_ne]; omega
 have e7 : (kd == 7) = false := by rw [beq_eq_false_iff_ne]; omega
 have HE : Hid (doA x ⟨kd, sn, sp⟩ = x) := Lib.hid (by unfold doA; simp only; rw [if_neg (by omega), if_neg (by omega), if_neg (by omega), if_neg (by omega), if_neg (by omega), if_neg (by omega), if_neg (by omega)])
 have HE2 : Hid (doErr x ⟨kd, sn, sp⟩ = 1) := Lib.hid (by unfold doErr; simp only; rw [if_neg (by omega), if_neg (by omega), if_neg (by omega), if_neg (by omega), if_neg (by omega)])
 clear hkd
 go_wp2_with (first | (refine wpList_store_row rfl (.tmp 4) (.tmp 35) rfl rfl rfl R4.out info_wd rfl rfl ?_))
 intro w7 r7 g7
 obtain ⟨p0, p1, p2, p3, p4, p5⟩ := cells6 r7
 clear c0 c1 c2 c3 c4 c5
 go_wp2
 refine bodyPost_ret (v := .tuple #[.agg #[.slice al x.head.log.length cl, .int .i64 x.head.boot, .int .i64 x.head.next, .slice ao x.head.opn.length co, .slice ah x.houses.length ch, .slice an x.net.length cn], .int .i64 1]) (by simp [results, Try.results138, go_sem, p0, p1, p2, p3, p4, p5]) rfl ?_
 have G7 := G1.out.grown g7 (fun q hq => by simp at hq; omega)
 rw [HE.out, HE2.out]
 exact ⟨_, rfl, HV.out.mono (ov_in HC.out), G7⟩
theorem ref_do_step {c : CM} {v vs : Value} {x : AW} {s : St} {n : Nat} {G : Reg} {k : Nat} (w : World) (hc : Sub c w.cell?) (hv : Of Ty.wd c v x) (hs : Of Ty.st c vs s) (hi : WI n G x) (hf : Few k x) (hk : k ≤ 1000) :
  Calls Try.prog 138 #[v, vs] w fun e w' => ∃ v', e = .returned (.tuple #[v', .int .i64 (doErr x s)]) ∧ Of Ty.wd (ov c w w') v' (doA x s) ∧ Grow w w' := by
 obtain ⟨kd, sn, sp⟩ := s
 by_cases h1 : kd = 1
 ·subst h1
  by_cases hw : wrongE sp x.houses.length = 0
  ·exact ref_do_begin w hc hv hs hi hf hk hw
  ·exact ref_do_beginX w hc hv hs hi hf hk hw
 by_cases h2 : kd = 2
 ·subst h2
  cases ht : there x sn with
  | true => exact ref_do_come w hc hv hs hi hf hk ht
  | false => exact ref_do_none2 w hc hv hs hi hf hk ht
 by_cases h3 : kd = 3
 ·subst h3
  cases ht : there x sn with
  | true => exact ref_do_lose w hc hv hs hi hf hk ht
  | false => exact ref_do_none3 w hc hv hs hi hf hk ht
 by_cases h4 : kd = 4
 ·subst h4
  cases ht : there x sn with
  | true => exact ref_do_twice w hc hv hs hi hf hk ht
  | false => exact ref_do_none4 w hc hv hs hi hf hk ht
 by_cases h5 : kd = 5
 ·subst h5
  by_cases hs3 : sn = 3
  ·exact ref_do_fall3 w hc hv hs hi hf hk hs3
  ·exact ref_do_fallH w hc hv hs hi hf hk hs3
 by_cases h6 : kd = 6
 ·subst h6
  by_cases hs3 : sn = 3
  ·exact ref_do_tick3 w hc hv hs hi hf hk hs3
  ·cases hh : hereN x sn with
   | true => exact ref_do_tickH w hc hv hs hi hf hk hh
   | false => exact ref_do_tickN w hc hv hs hi hf hk hs3 hh
 by_cases h7 : kd = 7
 ·subst h7
  exact ref_do_quit w hc hv hs hi hf hk
 ·exact ref_do_else w hc hv hs hi hf hk (by omega)
theorem compact_spec (d : Array Int) (hs : ∀ i j, i ≤ j → j < d.size → d[i]! ≤ d[j]!) : ∀ m, m ≤ d.size → (Lib.compactUpTo d m).Pairwise (· < ·) ∧ ∀ x, x ∈ Lib.compactUpTo d m ↔ ∃ j, j < m ∧ d[j]! = x
 | 0, _ => ⟨by simp [Lib.compactUpTo], fun x => by simp [Lib.compactUpTo]⟩
 | m + 1, hm => by
  obtain ⟨h1, h2⟩ := compact_spec d hs m (by omega)
  rw [Lib.compactUpTo_succ]
  by_cases hk : Lib.keeps d m = true
  ·rw [if_pos hk]
   have hlt : ∀ x ∈ Lib.compactUpTo d m, x < d[m]! := fun x hx => by
    obtain ⟨j, hj, rfl⟩ := (h2 x).1 hx
    have a := hs j (m - 1) (by omega) (by omega)
    have b := hs (m - 1) m (by omega) (by omega)
    have c : d[m]! ≠ d[m - 1]! := by
     unfold Lib.keeps at hk
     rcases of_decide_eq_true hk with e | e
     ·omega
     ·exact e
    omega
   refine ⟨?_, fun x => ?_⟩
   ·rw [List.pairwise_append]
    exact ⟨h1, by simp, fun a ha b hb => by simp only [List.mem_singleton] at hb; subst hb; exact hlt a ha⟩
   ·rw [List.mem_append, h2, List.mem_singleton]
    constructor
    ·rintro (⟨j, hj, e⟩ | e)
     ·exact ⟨j, by omega, e⟩
     ·exact ⟨m, by omega, e.symm⟩
    ·rintro ⟨j, hj, e⟩
     by_cases hjm : j = m
     ·subst hjm; exact .inr e.symm
     ·exact .inl ⟨j, by omega, e⟩
  ·rw [if_neg hk, List.append_nil]
   refine ⟨h1, fun x => ?_⟩
   rw [h2]
   have hk' : ¬ (m = 0 ∨ d[m]! ≠ d[m - 1]!) := by
    intro h
    exact hk (by unfold Lib.keeps; exact decide_eq_true h)
   have e0 : m ≠ 0 := fun e => hk' (.inl e)
   have e1 : d[m]! = d[m - 1]! := by
    rcases Classical.em (d[m]! = d[m - 1]!) with h | h
    ·exact h
    ·exact absurd (.inr h) hk'
   constructor
   ·rintro ⟨j, hj, e⟩; exact ⟨j, by omega, e⟩
   ·rintro ⟨j, hj, e⟩
    by_cases hjm : j = m
    ·subst hjm; exact ⟨j - 1, by omega, by rw [← e1]; exact e⟩
    ·exact ⟨j, by omega, e⟩
theorem sort_once (l : List Int) : (Lib.compact (l.mergeSort fun x y => decide (x ≤ y))).Pairwise (· < ·) ∧ ∀ x, x ∈ Lib.compact (l.mergeSort fun x y => decide (x ≤ y)) ↔ x ∈ l := by
 have hp : (l.mergeSort fun x y => decide (x ≤ y)).Pairwise fun a b => decide (a ≤ b) = true :=
  List.pairwise_mergeSort (fun a b c h1 h2 => by simp only [decide_eq_true_eq] at *; omega) (fun a b => by simp only [Bool.or_eq_true, decide_eq_true_eq]; omega) l
 have hm : ∀ x, x ∈ (l.mergeSort fun x y => decide (x ≤ y)) ↔ x ∈ l := fun x => List.mem_mergeSort
 generalize (l.mergeSort fun x y => decide (x ≤ y)) = s at hp hm
 have hs : ∀ i j, i ≤ j → j < s.toArray.size → s.toArray[i]! ≤ s.toArray[j]! := fun i j hij hj => by
  have hj' : j < s.length := by simpa using hj
  rw [getElem!_pos s.toArray j hj, getElem!_pos s.toArray i (by omega)]
  by_cases e : i = j
  ·subst e; exact Int.le_refl _
  ·have := List.pairwise_iff_getElem.1 hp i j (by omega) hj' (by omega)
   simpa using this
 obtain ⟨h1, h2⟩ := compact_spec s.toArray hs s.length (by simp)
 refine ⟨h1, fun x => ?_⟩
 rw [← hm]
 show x ∈ Lib.compactUpTo s.toArray s.length ↔ _
 rw [h2, List.mem_iff_getElem]
 constructor
 ·rintro ⟨j, hj, e⟩
  rw [getElem!_pos s.toArray j (by simpa using hj)] at e
  exact ⟨j, hj, by simpa using e⟩
 ·rintro ⟨j, hj, e⟩
  exact ⟨j, hj, by rw [getElem!_pos s.toArray j (by simpa using hj)]; simpa using e⟩
def openReady (hs : List Hs) : List Int := hs.flatMap fun h => h.ready.map (·.deed)
def openAt (hs : List Hs) (r : Rd) : List Int := ((housesE r.parts).filter fun n => !decide (r.deed ∈ (hs.getD n.toNat hs0).done)).map fun _ => r.deed
def openDec (hs : List Hs) (D : List Rd) : List Int := D.flatMap (openAt hs)
theorem open_all {n : Nat} {G : Reg} {w : AW} (i : WI n G w) : Lib.compact ((openReady w.houses ++ openDec w.houses (decidedR w.head.log)).mergeSort fun x y => decide (x ≤ y)) = opensE w := by
 obtain ⟨h1, h2⟩ := sort_once (openReady w.houses ++ openDec w.houses (decidedR w.head.log))
 refine sorted_ext h1 ?_ fun x => ?_
 ·unfold opensE
  refine List.Pairwise.filter _ ?_
  rw [List.pairwise_map]
  exact List.pairwise_lt_range.imp fun h => by omega
 ·rw [h2, List.mem_append]
  have key : isOpen w x = true ↔ (x ∈ openReady w.houses ∨ x ∈ openDec w.houses (decidedR w.head.log)) := by
   unfold isOpen
   rw [Bool.or_eq_true]
   refine or_congr ?_ ?_
   ·unfold openReady readyE
    rw [List.any_eq_true, List.mem_flatMap]
    constructor
    ·rintro ⟨h, hh, hx⟩
     obtain ⟨r, hr, e⟩ := List.any_eq_true.1 hx
     exact ⟨h, hh, List.mem_map.2 ⟨r, hr, by simpa [isD] using e⟩⟩
    ·rintro ⟨h, hh, hx⟩
     obtain ⟨r, hr, e⟩ := List.mem_map.1 hx
     exact ⟨h, hh, List.any_eq_true.2 ⟨r, hr, by simpa [isD] using e⟩⟩
   ·unfold openDec
    rw [List.any_eq_true, List.mem_flatMap]
    have hl := i.core.len
    have h3 := i.core.n3
    constructor
    ·rintro ⟨r, hr, hx⟩
     rw [Bool.and_eq_true, List.any_eq_true] at hx
     obtain ⟨e, k, hk, hx⟩ := hx
     rw [Bool.and_eq_true] at hx
     have hk' := List.mem_range.1 hk
     have e' : r.deed = x := by simpa using e
     refine ⟨r, hr, List.mem_map.2 ⟨(k : Int), List.mem_filter.2 ⟨houses_mem.2 ⟨by omega, fun e0 => by have := hx.1; rw [e0] at this; simp at this⟩, ?_⟩, e'⟩⟩
     rw [e']; exact hx.2
    ·rintro ⟨r, hr, hx⟩
     obtain ⟨k, hk, e⟩ := List.mem_map.1 hx
     obtain ⟨hk, hd⟩ := List.mem_filter.1 hk
     have hw : wrongE r.parts n = 0 := (i.core.reg.ok _ (i.core.dec.reg r hr)).2
     have hb := houses_lt hw hk
     have hm := houses_mem.1 hk
     refine ⟨r, hr, ?_⟩
     rw [Bool.and_eq_true, List.any_eq_true]
     refine ⟨by simpa using e, k.toNat, List.mem_range.2 (by omega), ?_⟩
     rw [Bool.and_eq_true, show ((k.toNat : Nat) : Int) = k by omega]
     refine ⟨?_, by rw [← e]; exact hd⟩
     cases ho : ofL r.parts k with
     | nil => exact absurd ho hm.2
     | cons a b => rfl
  constructor
  ·intro hx
   have hx' := key.2 hx
   unfold opensE
   refine List.mem_filter.2 ⟨?_, hx'⟩
   have hd : ∃ P, (x, P) ∈ G := by
    rcases hx with hx | hx
    ·obtain ⟨h, hh, hx⟩ := List.mem_flatMap.1 hx
     obtain ⟨r, hr, rfl⟩ := List.mem_map.1 hx
     obtain ⟨j, hj⟩ := List.mem_iff_getElem?.1 hh
     obtain ⟨P, hP, -⟩ := (i.core.house j h hj).reg r hr
     exact ⟨P, hP⟩
    ·obtain ⟨r, hr, hx⟩ := List.mem_flatMap.1 hx
     obtain ⟨k, -, rfl⟩ := List.mem_map.1 hx
     exact ⟨_, i.core.dec.reg r hr⟩
   obtain ⟨P, hP⟩ := hd
   have := i.core.deed hP
   exact List.mem_map.2 ⟨x.toNat, List.mem_range.2 (by omega), by omega⟩
  ·intro hx
   unfold opensE at hx
   exact key.1 (List.mem_filter.1 hx).2
def rdAt (hs : List Hs) (x : Int) : Prop := ∃ h ∈ hs, readyE h.ready x = true
def dcAt (hs : List Hs) (r : Rd) (j : Nat) : Prop := ∃ k h, k < j ∧ hs[k]? = some h ∧ ofL r.parts k ≠ [] ∧ r.deed ∉ h.done
def dcAll (hs : List Hs) (D : List Rd) (x : Int) : Prop := ∃ r ∈ D, r.deed = x ∧ dcAt hs r hs.length
theorem isOpen_iff {w : AW} {x : Int} : isOpen w x = true ↔ rdAt w.houses x ∨ dcAll w.houses (decidedR w.head.log) x := by
 unfold isOpen rdAt dcAll dcAt
 rw [Bool.or_eq_true, List.any_eq_true, List.any_eq_true]
 refine or_congr Iff.rfl ⟨?_, ?_⟩
 ·rintro ⟨r, hr, h⟩
  rw [Bool.and_eq_true, List.any_eq_true] at h
  obtain ⟨e, k, hk, h2⟩ := h
  rw [Bool.and_eq_true] at h2
  have hk' := List.mem_range.1 hk
  refine ⟨r, hr, by simpa using e, k, w.houses[k], hk', List.getElem?_eq_getElem hk', fun e0 => by rw [e0] at h2; simp at h2, ?_⟩
  have h3 := h2.2
  rw [List.getD_eq_getElem?_getD, List.getElem?_eq_getElem hk'] at h3
  have e' : r.deed = x := by simpa using e
  rw [e']; simpa using h3
 ·rintro ⟨r, hr, e, k, h, hk, hh, h1, h2⟩
  refine ⟨r, hr, ?_⟩
  rw [Bool.and_eq_true, List.any_eq_true]
  refine ⟨by simpa using e, k, List.mem_range.2 hk, ?_⟩
  rw [Bool.and_eq_true, List.getD_eq_getElem?_getD, hh]
  refine ⟨?_, by rw [← e]; simpa using h2⟩
  cases ho : ofL r.parts k with
  | nil => exact absurd ho h1
  | cons a b => rfl
theorem rdAt_none (x : Int) : ¬ rdAt [] x := by rintro ⟨h, hh, -⟩; simp at hh
theorem rdAt_next {hs : List Hs} {j : Nat} (hj : j < hs.length) (x : Int) : rdAt (hs.take (j + 1)) x ↔ rdAt (hs.take j) x ∨ readyE hs[j].ready x = true := by
 unfold rdAt
 rw [List.take_succ_eq_append_getElem hj]
 constructor
 ·rintro ⟨h, hh, e⟩
  rcases List.mem_append.1 hh with hh | hh
  ·exact .inl ⟨h, hh, e⟩
  ·rw [List.mem_singleton.1 hh] at e; exact .inr e
 ·rintro (⟨h, hh, e⟩ | e)
  ·exact ⟨h, List.mem_append.2 (.inl hh), e⟩
  ·exact ⟨_, List.mem_append.2 (.inr (List.mem_singleton.2 rfl)), e⟩
theorem readyE_next {l : List Rd} {j : Nat} (hj : j < l.length) (x : Int) : readyE (l.take (j + 1)) x = true ↔ readyE (l.take j) x = true ∨ l[j].deed = x := by
 unfold readyE
 rw [List.take_succ_eq_append_getElem hj, List.any_append, Bool.or_eq_true]
 simp [isD]
theorem dcAt_zero {hs : List Hs} {r : Rd} : ¬ dcAt hs r 0 := by rintro ⟨k, h, hk, -⟩; omega
theorem dcAt_next {hs : List Hs} {r : Rd} {j : Nat} {h : Hs} (hj : hs[j]? = some h) : dcAt hs r (j + 1) ↔ dcAt hs r j ∨ (ofL r.parts j ≠ [] ∧ r.deed ∉ h.done) := by
 unfold dcAt
 constructor
 ·rintro ⟨k, h', hk, e, h1, h2⟩
  by_cases hkj : k = j
  ·subst hkj
   rw [hj] at e
   obtain rfl := Option.some.inj e
   exact .inr ⟨h1, h2⟩
  ·exact .inl ⟨k, h', by omega, e, h1, h2⟩
 ·rintro (⟨k, h', hk, e, h1, h2⟩ | ⟨h1, h2⟩)
  ·exact ⟨k, h', by omega, e, h1, h2⟩
  ·exact ⟨j, h, by omega, hj, h1, h2⟩
theorem dcAll_none (hs : List Hs) (x : Int) : ¬ dcAll hs [] x := by rintro ⟨r, hr, -⟩; simp at hr
theorem dcAll_next {hs : List Hs} {D : List Rd} {j : Nat} (hj : j < D.length) (x : Int) : dcAll hs (D.take (j + 1)) x ↔ dcAll hs (D.take j) x ∨ (D[j].deed = x ∧ dcAt hs D[j] hs.length) := by
 unfold dcAll
 rw [List.take_succ_eq_append_getElem hj]
 constructor
 ·rintro ⟨r, hr, e, h⟩
  rcases List.mem_append.1 hr with hr | hr
  ·exact .inl ⟨r, hr, e, h⟩
  ·rw [List.mem_singleton.1 hr] at e h; exact .inr ⟨e, h⟩
 ·rintro (⟨r, hr, e, h⟩ | ⟨e, h⟩)
  ·exact ⟨r, List.mem_append.2 (.inl hr), e, h⟩
  ·exact ⟨_, List.mem_append.2 (.inr (List.mem_singleton.2 rfl)), e, h⟩
def opensTo (p : Int → Bool) (j : Nat) : List Int := ((List.range j).map fun d : Nat => (d : Int)).filter p
theorem opensTo_next (p : Int → Bool) (j : Nat) : opensTo p (j + 1) = if p j = true then opensTo p j ++ [(j : Int)] else opensTo p j := by
 unfold opensTo
 rw [List.range_succ, List.map_append, List.filter_append]
 by_cases h : p j = true <;> simp [h]
theorem opensTo_len (p : Int → Bool) (j : Nat) : (opensTo p j).length ≤ j := by
 unfold opensTo
 exact Nat.le_trans (List.length_filter_le _ _) (by simp)
def playE : AW → List St → List Int
 | _, [] => []
 | w, s :: l => doErr w s :: playE (doA w s) l
theorem playE_len : ∀ (l : List St) (w : AW), (playE w l).length = l.length
 | [], _ => rfl
 | s :: l, w => by rw [playE, List.length_cons, List.length_cons, playE_len l]
theorem playE_snoc : ∀ (l : List St) (w : AW) (s : St), playE w (l ++ [s]) = playE w l ++ [doErr (playA w l) s]
 | [], w, s => rfl
 | t :: l, w, s => by
  rw [List.cons_append, playE, playE, playE_snoc l]
  rfl
theorem playA_snoc (l : List St) (w : AW) (s : St) : playA w (l ++ [s]) = doA (playA w l) s := by unfold playA; rw [List.foldl_append]; rfl
theorem playA_next {l : List St} {j : Nat} (h : j < l.length) (w : AW) : playA w (l.take (j + 1)) = doA (playA w (l.take j)) l[j] := by
 rw [List.take_succ_eq_append_getElem h, playA_snoc]
theorem playE_next {l : List St} {j : Nat} (h : j < l.length) (w : AW) : playE w (l.take (j + 1)) = playE w (l.take j) ++ [doErr (playA w (l.take j)) l[j]] := by
 rw [List.take_succ_eq_append_getElem h, playE_snoc]
theorem fr_back {w W W' : World} {X : List (Option Nat)} (hg : Grow W W') (hs : w.heap.size ≤ W.heap.size) (hX : ∀ k, W.heap.size ≤ k → some k ∉ X) : Sub (ov (fr w W X) W W') (fr w W' X) := fun a v e => by
 unfold ov at e
 split at e
 ·exact fr_grow hg a v e
 ·rw [fr_new (by omega) (hX _ (by omega))]; exact e
theorem fr_past {w w9 w7 : World} (h7 : w9.grownBy w7 (some w.heap.size)) : Sub (fr w w9 [some w.heap.size]) (ov (fun _ => none) w w7) := fun a v e => by
 unfold fr at e
 split at e
 ·cases e
 ·rename_i hn
  have h1 : ¬ a.block < w.heap.size := fun hx => hn (.inl hx)
  have h2 : a.block ≠ w.heap.size := fun hx => hn (.inr (by rw [hx]; simp))
  rw [ov_new (by omega)]
  exact cell_past e h7 h2
set_option maxRecDepth 100000 in
set_option maxHeartbeats 4000000 in
theorem ref_newN {n : Nat} (w : World) (hn : 1 ≤ n ∧ n ≤ 3) :
  Calls Try.prog 137 #[.int .i64 n] w fun e w' => ∃ v', e = .returned (.tuple #[v', .int .i64 0]) ∧ Of Ty.wd (ov (fun _ => none) w w') v' (newA n) ∧ Grow w w' := by
 obtain ⟨cs, hmk, hms⟩ := make_houses hn
 have HMS := Lib.hid hms
 have hn1 : ¬ (n : Int) < 1 := by omega
 have hn3 : ¬ (3 : Int) < (n : Int) := by omega
 clear hms
 obtain ⟨wz, hwz⟩ : ∃ y : World, y = w.alloc (.cells #[.slice none 0 0, .int .i64 0, .int .i64 0, .slice none 0 0, .slice none 0 0, .slice none 0 0] 93) := ⟨_, rfl⟩
 have R2 : Hid (wz.heap[w.heap.size]? = some (.cells #[.slice none 0 0, .int .i64 0, .int .i64 0, .slice none 0 0, .slice none 0 0, .slice none 0 0] 93 (0, 0))) := Lib.hid (by rw [hwz]; exact row_new _ _)
 have G1 : Hid (Grow w wz) := Lib.hid (by rw [hwz]; exact (Grow.refl w).alloc _)
 have HZ : Hid (wz.heap.size = w.heap.size + 1) := Lib.hid (by rw [hwz]; simp)
 go_enter Try.func137, Try.ntmps137
 go_upto_region 3 with fail
 rw [← hwz]
 clear hwz
 have HTRU : Hid (∀ W, Grow wz W → True) := fun _ _ => trivial
 refine but_start (fun w' => True) 7 (by kernel_rfl) ?_
 obtain ⟨wd, hWd⟩ : ∃ x : World, x = wz.drew := ⟨_, rfl⟩
 rw [← hWd]
 have GD : Grow wz wd := by rw [hWd]; exact (Grow.refl _).drew
 have zD : wz.heap.size = wd.heap.size := by rw [hWd]; rfl
 have ZD := Lib.hid zD
 clear hWd zD
 refine bLm [0] 10 (by kernel_rfl) (fun _ _ _ _ _ h => h) (HTRU.out _ GD) ?_
 repeat (refine tNm (v := ?_) rfl (by rfl) ?_ ?_; rotate_left; (· (intro w' hSw; (try dsimp only at hSw); go_simp <;> with_reducible rfl)); try simp only [Act.put, lzA, lzC, lzD, lzE, lzF])
 refine tEm ?_
 refine bLm [3] 10 (by kernel_rfl) (fun _ _ _ _ _ h => h) (HTRU.out _ GD) ?_
 repeat (refine tNm (v := ?_) rfl (by rfl) ?_ ?_; rotate_left; (· (intro w' hSw; (try dsimp only at hSw); go_simp <;> with_reducible rfl)); try simp only [Act.put, lzA, lzB, lzC, lzD, lzE, lzF])
 refine tEm ?_
 refine bP 1 4 (by kernel_rfl) rfl rfl ?_ ?_
 ·intro K HK
  try simp only [lzA, lzB, lzC]
  go_simp
  obtain ⟨y1, hy1⟩ : ∃ y : World, y = wd.alloc (.cells #[.int .i64 4, .int .i64 0, .slice none 0 0] 48) := ⟨_, rfl⟩
  obtain ⟨By1, hBy1⟩ : ∃ y, y = wd.heap.size := ⟨_, rfl⟩
  have S_y1 : Hid (Grow wd y1) := Lib.hid (by rw [hy1]; exact (Grow.refl _).alloc _)
  have G_y1 := Lib.hid (Grow.trans (GD) S_y1.out)
  have lit_y1 : Hid (OwnC Ty.rc (fun _ => none) y1 (w.heap.size + 1) 48 (.slice (some ⟨By1, 0, none⟩) 1 1) [⟨4, 0, []⟩]) := Lib.hid (by rw [hy1, hBy1]; exact one_boot _ (by have := (GD).size; have := HZ.out; omega))
  rw [← hy1, ← hBy1]
  clear hy1 hBy1
  refine HK.out _ _ ⟨fun _ => HTRU.out _ G_y1.out, ?_⟩
  clear HK K
  try simp only [Act.put, lzA, lzB, lzC, lzD, lzE, lzF]
  refine bP 2 4 (by kernel_rfl) rfl rfl ?_ ?_
  ·intro K HK
   try simp only [lzA, lzB, lzC]
   go_simp
   go_at_call 43
   refine (ref_head (l := [⟨4, 0, []⟩]) (c := fr w y1 [some w.heap.size]) y1 (fr_sub _ _ _) (OwnC.slc (d := fr w y1 [some w.heap.size]) (by decide) (lit_y1.out) (fun _ _ e => by cases e) fun a ha => fr_new (by omega) (by simp; omega)) (by decide)).mono ?_
   rintro e y2 ⟨vh, rfl, hx, hby2⟩
   obtain ⟨al2, cl2, ar2, cr2, rfl⟩ := hx.hd_form
   have S_y2 : Hid (Grow y1 y2) := Lib.hid (hby2)
   have G_y2 := Lib.hid (Grow.trans (G_y1.out) S_y2.out)
   have hd_y2 := Lib.hid (Of.mono (fr_back hby2 (by have := (G_y1.out).size; have := HZ.out; omega) (fun k9 hk9 => by have := (G_y1.out).size; have := HZ.out; simp; omega)) hx)
   clear hx hby2
   generalize hqh : headR [⟨4, 0, []⟩] = qh at *
   have HQH := Lib.hid hqh
   clear hqh
   refine HK.out _ _ ⟨fun _ => HTRU.out _ G_y2.out, ?_⟩
   clear HK K
   try simp only [Act.put, lzA, lzB, lzC, lzD, lzE, lzF]
   refine bO 4 (by kernel_rfl) rfl ?_
   intro K HK
   try simp only [lzA, lzB, lzC]
   have hmk9 := hmk y2
   go_simp
   clear hmk9
   obtain ⟨y3, hy3⟩ : ∃ y : World, y = y2.alloc (.cells cs 29) := ⟨_, rfl⟩
   obtain ⟨By3, hBy3⟩ : ∃ y, y = y2.heap.size := ⟨_, rfl⟩
   have S_y3 : Hid (Grow y2 y3) := Lib.hid (by rw [hy3]; exact (Grow.refl _).alloc _)
   have G_y3 := Lib.hid (Grow.trans (G_y2.out) S_y3.out)
   have hd_y3 := Lib.hid (Of.mono (fr_grow S_y3.out) (hd_y2.out))
   have hs_y3 : Hid (OwnC Ty.hs (fun _ => none) y3 (w.heap.size + 1) 29 (.slice (some ⟨By3, 0, none⟩) n n) (List.replicate n hs0)) := Lib.hid (by rw [hy3, hBy3]; exact (HMS.out _).base (by have := (G_y2.out).size; have := HZ.out; omega))
   rw [← hy3, ← hBy3]
   clear hy3 hBy3
   refine HK.out _ _ ⟨fun _ => HTRU.out _ G_y3.out, ?_⟩
   clear HK K
   try simp only [Act.put, lzA, lzB, lzC, lzD, lzE, lzF]
   refine bO 5 (by kernel_rfl) rfl ?_
   intro K HK
   try simp only [lzA, lzB, lzC]
   go_simp
   refine HK.out _ _ ⟨fun _ => HTRU.out _ G_y3.out, ?_⟩
   clear HK K
   try simp only [Act.put, lzA, lzB, lzC, lzD, lzE, lzF]
   refine bO 6 (by kernel_rfl) rfl ?_
   intro K HK
   refine wanted_go rfl ?_
   try simp only [lzA, lzB, lzC]
   refine wp_store_row (.tmp 2) (.tmp 16) rfl rfl rfl (row_grow R2.out (G_y3.out)) info_wd rfl rfl ?_
   intro w7 r7 g7
   refine HK.out _ _ ⟨fun _ => trivial, ?_⟩
   clear HK K
   try simp only [Act.put]
   refine bO 7 (by kernel_rfl) rfl ?_
   intro K HK
   try simp only [lzA, lzB, lzC]
   go_simp
   refine HK.out _ _ ⟨fun h => absurd rfl h, ?_⟩
   clear HK K
   try simp only [Act.put, lzA, lzB, lzC, lzD, lzE, lzF]
   refine but_done (by kernel_rfl) ?_
   obtain ⟨p0, p1, p2, p3, p4, p5⟩ := cells6 r7
   go_wp2
   refine bodyPost_ret (v := .tuple #[.agg #[.slice al2 qh.log.length cl2, .int .i64 qh.boot, .int .i64 qh.next, .slice ar2 qh.opn.length cr2, .slice (some ⟨By3, 0, none⟩) n n, .slice none 0 0], .int .i64 0]) (by simp [results, Try.results137, go_sem, p0, p1, p2, p3, p4, p5]) rfl ?_
   have G7 := (G1.out.trans (G_y3.out)).grown g7 (fun q hq => by simp at hq; omega)
   refine ⟨_, rfl, ?_, G7⟩
   unfold newA
   rw [HQH.out]
   refine Of.wd_mk ((hd_y3.out).mono (fr_past g7)) ?_ (Sl.nil _ _)
   have h9 := OwnC.slc (T := Ty.hs) (c := fun _ => none) (d := ov (fun _ => none) w w7) (by decide) ((hs_y3.out).kept g7 (own_apart (hs_y3.out) (by omega))) (fun _ _ e => by cases e) fun a ha => ov_new (by omega)
   exact h9
  ·intro K HK
   try simp only [lzA, lzB, lzC]
   have hmk9 := hmk y1
   go_simp
   clear hmk9
   obtain ⟨y4, hy4⟩ : ∃ y : World, y = y1.alloc (.cells cs 29) := ⟨_, rfl⟩
   obtain ⟨By4, hBy4⟩ : ∃ y, y = y1.heap.size := ⟨_, rfl⟩
   have S_y4 : Hid (Grow y1 y4) := Lib.hid (by rw [hy4]; exact (Grow.refl _).alloc _)
   have G_y4 := Lib.hid (Grow.trans (G_y1.out) S_y4.out)
   have lit_y4 := Lib.hid (OwnC.grow (lit_y1.out) S_y4.out)
   have hs_y4 : Hid (OwnC Ty.hs (fun _ => none) y4 (w.heap.size + 1) 29 (.slice (some ⟨By4, 0, none⟩) n n) (List.replicate n hs0)) := Lib.hid (by rw [hy4, hBy4]; exact (HMS.out _).base (by have := (G_y1.out).size; have := HZ.out; omega))
   rw [← hy4, ← hBy4]
   clear hy4 hBy4
   refine HK.out _ _ ⟨fun _ => HTRU.out _ G_y4.out, ?_⟩
   clear HK K
   try simp only [Act.put, lzA, lzB, lzC, lzD, lzE, lzF]
   refine bO 2 (by kernel_rfl) rfl ?_
   intro K HK
   try simp only [lzA, lzB, lzC]
   go_simp
   go_at_call 43
   refine (ref_head (l := [⟨4, 0, []⟩]) (c := fr w y4 [some w.heap.size]) y4 (fr_sub _ _ _) (OwnC.slc (d := fr w y4 [some w.heap.size]) (by decide) (lit_y4.out) (fun _ _ e => by cases e) fun a ha => fr_new (by omega) (by simp; omega)) (by decide)).mono ?_
   rintro e y5 ⟨vh, rfl, hx, hby5⟩
   obtain ⟨al2, cl2, ar2, cr2, rfl⟩ := hx.hd_form
   have S_y5 : Hid (Grow y4 y5) := Lib.hid (hby5)
   have G_y5 := Lib.hid (Grow.trans (G_y4.out) S_y5.out)
   have hs_y5 := Lib.hid (OwnC.grow (hs_y4.out) S_y5.out)
   have hd_y5 := Lib.hid (Of.mono (fr_back hby5 (by have := (G_y4.out).size; have := HZ.out; omega) (fun k9 hk9 => by have := (G_y4.out).size; have := HZ.out; simp; omega)) hx)
   clear hx hby5
   generalize hqh : headR [⟨4, 0, []⟩] = qh at *
   have HQH := Lib.hid hqh
   clear hqh
   refine HK.out _ _ ⟨fun _ => HTRU.out _ G_y5.out, ?_⟩
   clear HK K
   try simp only [Act.put, lzA, lzB, lzC, lzD, lzE, lzF]
   refine bO 5 (by kernel_rfl) rfl ?_
   intro K HK
   try simp only [lzA, lzB, lzC]
   go_simp
   refine HK.out _ _ ⟨fun _ => HTRU.out _ G_y5.out, ?_⟩
   clear HK K
   try simp only [Act.put, lzA, lzB, lzC, lzD, lzE, lzF]
   refine bO 6 (by kernel_rfl) rfl ?_
   intro K HK
   refine wanted_go rfl ?_
   try simp only [lzA, lzB, lzC]
   refine wp_store_row (.tmp 2) (.tmp 16) rfl rfl rfl (row_grow R2.out (G_y5.out)) info_wd rfl rfl ?_
   intro w7 r7 g7
   refine HK.out _ _ ⟨fun _ => trivial, ?_⟩
   clear HK K
   try simp only [Act.put]
   refine bO 7 (by kernel_rfl) rfl ?_
   intro K HK
   try simp only [lzA, lzB, lzC]
   go_simp
   refine HK.out _ _ ⟨fun h => absurd rfl h, ?_⟩
   clear HK K
   try simp only [Act.put, lzA, lzB, lzC, lzD, lzE, lzF]
   refine but_done (by kernel_rfl) ?_
   obtain ⟨p0, p1, p2, p3, p4, p5⟩ := cells6 r7
   go_wp2
   refine bodyPost_ret (v := .tuple #[.agg #[.slice al2 qh.log.length cl2, .int .i64 qh.boot, .int .i64 qh.next, .slice ar2 qh.opn.length cr2, .slice (some ⟨By4, 0, none⟩) n n, .slice none 0 0], .int .i64 0]) (by simp [results, Try.results137, go_sem, p0, p1, p2, p3, p4, p5]) rfl ?_
   have G7 := (G1.out.trans (G_y5.out)).grown g7 (fun q hq => by simp at hq; omega)
   refine ⟨_, rfl, ?_, G7⟩
   unfold newA
   rw [HQH.out]
   refine Of.wd_mk ((hd_y5.out).mono (fr_past g7)) ?_ (Sl.nil _ _)
   have h9 := OwnC.slc (T := Ty.hs) (c := fun _ => none) (d := ov (fun _ => none) w w7) (by decide) ((hs_y5.out).kept g7 (own_apart (hs_y5.out) (by omega))) (fun _ _ e => by cases e) fun a ha => ov_new (by omega)
   exact h9
 ·intro K HK
  try simp only [lzA, lzB, lzC]
  have hmk9 := hmk wd
  go_simp
  clear hmk9
  obtain ⟨y6, hy6⟩ : ∃ y : World, y = wd.alloc (.cells cs 29) := ⟨_, rfl⟩
  obtain ⟨By6, hBy6⟩ : ∃ y, y = wd.heap.size := ⟨_, rfl⟩
  have S_y6 : Hid (Grow wd y6) := Lib.hid (by rw [hy6]; exact (Grow.refl _).alloc _)
  have G_y6 := Lib.hid (Grow.trans (GD) S_y6.out)
  have hs_y6 : Hid (OwnC Ty.hs (fun _ => none) y6 (w.heap.size + 1) 29 (.slice (some ⟨By6, 0, none⟩) n n) (List.replicate n hs0)) := Lib.hid (by rw [hy6, hBy6]; exact (HMS.out _).base (by have := (GD).size; have := HZ.out; omega))
  rw [← hy6, ← hBy6]
  clear hy6 hBy6
  refine HK.out _ _ ⟨fun _ => HTRU.out _ G_y6.out, ?_⟩
  clear HK K
  try simp only [Act.put, lzA, lzB, lzC, lzD, lzE, lzF]
  refine bO 1 (by kernel_rfl) rfl ?_
  intro K HK
  try simp only [lzA, lzB, lzC]
  go_simp
  obtain ⟨y7, hy7⟩ : ∃ y : World, y = y6.alloc (.cells #[.int .i64 4, .int .i64 0, .slice none 0 0] 48) := ⟨_, rfl⟩
  obtain ⟨By7, hBy7⟩ : ∃ y, y = y6.heap.size := ⟨_, rfl⟩
  have S_y7 : Hid (Grow y6 y7) := Lib.hid (by rw [hy7]; exact (Grow.refl _).alloc _)
  have G_y7 := Lib.hid (Grow.trans (G_y6.out) S_y7.out)
  have hs_y7 := Lib.hid (OwnC.grow (hs_y6.out) S_y7.out)
  have lit_y7 : Hid (OwnC Ty.rc (fun _ => none) y7 (w.heap.size + 1) 48 (.slice (some ⟨By7, 0, none⟩) 1 1) [⟨4, 0, []⟩]) := Lib.hid (by rw [hy7, hBy7]; exact one_boot _ (by have := (G_y6.out).size; have := HZ.out; omega))
  rw [← hy7, ← hBy7]
  clear hy7 hBy7
  refine HK.out _ _ ⟨fun _ => HTRU.out _ G_y7.out, ?_⟩
  clear HK K
  try simp only [Act.put, lzA, lzB, lzC, lzD, lzE, lzF]
  refine bO 2 (by kernel_rfl) rfl ?_
  intro K HK
  try simp only [lzA, lzB, lzC]
  go_simp
  go_at_call 43
  refine (ref_head (l := [⟨4, 0, []⟩]) (c := fr w y7 [some w.heap.size]) y7 (fr_sub _ _ _) (OwnC.slc (d := fr w y7 [some w.heap.size]) (by decide) (lit_y7.out) (fun _ _ e => by cases e) fun a ha => fr_new (by omega) (by simp; omega)) (by decide)).mono ?_
  rintro e y8 ⟨vh, rfl, hx, hby8⟩
  obtain ⟨al2, cl2, ar2, cr2, rfl⟩ := hx.hd_form
  have S_y8 : Hid (Grow y7 y8) := Lib.hid (hby8)
  have G_y8 := Lib.hid (Grow.trans (G_y7.out) S_y8.out)
  have hs_y8 := Lib.hid (OwnC.grow (hs_y7.out) S_y8.out)
  have hd_y8 := Lib.hid (Of.mono (fr_back hby8 (by have := (G_y7.out).size; have := HZ.out; omega) (fun k9 hk9 => by have := (G_y7.out).size; have := HZ.out; simp; omega)) hx)
  clear hx hby8
  generalize hqh : headR [⟨4, 0, []⟩] = qh at *
  have HQH := Lib.hid hqh
  clear hqh
  refine HK.out _ _ ⟨fun _ => HTRU.out _ G_y8.out, ?_⟩
  clear HK K
  try simp only [Act.put, lzA, lzB, lzC, lzD, lzE, lzF]
  refine bO 5 (by kernel_rfl) rfl ?_
  intro K HK
  try simp only [lzA, lzB, lzC]
  go_simp
  refine HK.out _ _ ⟨fun _ => HTRU.out _ G_y8.out, ?_⟩
  clear HK K
  try simp only [Act.put, lzA, lzB, lzC, lzD, lzE, lzF]
  refine bO 6 (by kernel_rfl) rfl ?_
  intro K HK
  refine wanted_go rfl ?_
  try simp only [lzA, lzB, lzC]
  refine wp_store_row (.tmp 2) (.tmp 16) rfl rfl rfl (row_grow R2.out (G_y8.out)) info_wd rfl rfl ?_
  intro w7 r7 g7
  refine HK.out _ _ ⟨fun _ => trivial, ?_⟩
  clear HK K
  try simp only [Act.put]
  refine bO 7 (by kernel_rfl) rfl ?_
  intro K HK
  try simp only [lzA, lzB, lzC]
  go_simp
  refine HK.out _ _ ⟨fun h => absurd rfl h, ?_⟩
  clear HK K
  try simp only [Act.put, lzA, lzB, lzC, lzD, lzE, lzF]
  refine but_done (by kernel_rfl) ?_
  obtain ⟨p0, p1, p2, p3, p4, p5⟩ := cells6 r7
  go_wp2
  refine bodyPost_ret (v := .tuple #[.agg #[.slice al2 qh.log.length cl2, .int .i64 qh.boot, .int .i64 qh.next, .slice ar2 qh.opn.length cr2, .slice (some ⟨By6, 0, none⟩) n n, .slice none 0 0], .int .i64 0]) (by simp [results, Try.results137, go_sem, p0, p1, p2, p3, p4, p5]) rfl ?_
  have G7 := (G1.out.trans (G_y8.out)).grown g7 (fun q hq => by simp at hq; omega)
  refine ⟨_, rfl, ?_, G7⟩
  unfold newA
  rw [HQH.out]
  refine Of.wd_mk ((hd_y8.out).mono (fr_past g7)) ?_ (Sl.nil _ _)
  have h9 := OwnC.slc (T := Ty.hs) (c := fun _ => none) (d := ov (fun _ => none) w w7) (by decide) ((hs_y8.out).kept g7 (own_apart (hs_y8.out) (by omega))) (fun _ _ e => by cases e) fun a ha => ov_new (by omega)
  exact h9
theorem fc_cell {c : CM} {W0 w : World} {X : List (Option Nat)} (h : Sub c w.cell?) : Sub (fc c W0 w X) w.cell? := fun a v e => by
 unfold fc at e
 split at e
 ·exact h _ _ e
 ·exact fr_sub _ _ _ _ _ e
theorem fc_call {c : CM} {W0 wr W W1 : World} {X : List (Option Nat)} (h1 : Grow wr W1) (h0 : W0.heap.size ≤ W.heap.size) (hX : ∀ k, W.heap.size ≤ k → some k ∉ X) : Sub (ov (fc c W0 wr X) W W1) (fc c W0 W1 X) := fun a v e => by
 unfold ov at e
 split at e
 ·exact fc_grow h1 a v e
 ·rw [fc_new (by omega) (hX _ (by omega))]; exact e
theorem wrongGo_le (h : Int) : ∀ (l : List Pt) (had : List (Int × Int)), 0 ≤ wrongGo h had l ∧ wrongGo h had l ≤ 5
 | [], had => by simp [wrongGo]
 | p :: l, had => by
  unfold wrongGo
  split
  ·omega
  ·split
   ·omega
   ·exact wrongGo_le h l _
theorem doErr_ok (x : AW) (s : St) : I64 (doErr x s) := by
 have h : 0 ≤ doErr x s ∧ doErr x s ≤ 9 := by
  unfold doErr
  split
  ·split
   ·unfold beginE; split <;> omega
   ·unfold wrongE
    split
    ·omega
    ·have := wrongGo_le x.houses.length s.parts []
     omega
  ·split
   ·split <;> omega
   ·split
    ·split
     ·unfold fallE; split <;> omega
     ·split <;> omega
    ·split
     ·split <;> omega
     ·split <;> omega
 exact i64_of (by omega) (by omega)
set_option maxRecDepth 100000 in
set_option maxHeartbeats 4000000 in
theorem ref_play {v : Value} {l : List St} {n : Nat} (w : World) (hn : 1 ≤ n ∧ n ≤ 3) (hv : Sl Ty.st w.cell? v l) :
  Calls Try.prog 72 #[.int .i64 n, v] w fun e w' => ∃ v1 v2, e = .returned (.tuple #[v1, v2]) ∧ Of Ty.wd w'.cell? v1 (playA (newA n) (l.take 150)) ∧ Sl Ty.int w'.cell? v2 (playE (newA n) (l.take 150)) ∧ Grow w w' := by
 obtain ⟨a, cap, rfl, h1, h2, -, hel⟩ := hv
 unfold maxLen at h2
 have HN := Lib.hid hn
 clear hn
 obtain ⟨wb, hwb⟩ : ∃ y : World, y = w.alloc (.cells #[.slice none 0 0, .int .i64 0, .int .i64 0, .slice none 0 0, .slice none 0 0, .slice none 0 0] 93) := ⟨_, rfl⟩
 have RB : Hid (wb.heap[w.heap.size]? = some (.cells #[.slice none 0 0, .int .i64 0, .int .i64 0, .slice none 0 0, .slice none 0 0, .slice none 0 0] 93 (0, 0))) := Lib.hid (by rw [hwb]; exact row_new _ _)
 have GB0 : Hid (Grow w wb) := Lib.hid (by rw [hwb]; exact (Grow.refl w).alloc _)
 have HSB : Hid (wb.heap.size = w.heap.size + 1) := Lib.hid (by rw [hwb]; simp)
 have HWB := Lib.hid hwb
 clear hwb
 go_enter Try.func72, Try.ntmps72
 go_upto_region 1 with fail
 rw [← HWB.out]
 clear HWB
 go_wp2_with fail
 refine (ref_newN wb HN.out).mono ?_
 rintro e w2 ⟨v2, rfl, hx2, hb2⟩
 obtain ⟨al, cl, ao, co, ah, ch, an, cn, rfl⟩ := hx2.wd_form
 have HX2 : Hid (Of Ty.wd (wo w.heap.size w2.cell?) _ (newA n)) := Lib.hid (hx2.mono (fun a9 v9 e9 => by
  unfold ov at e9
  split at e9
  ·cases e9
  ·rw [wo_at (by have := HSB.out; omega)]; exact e9))
 have G2 := Lib.hid (GB0.out.trans hb2)
 have RB2 := Lib.hid (row_grow RB.out hb2)
 have HSW : Hid (w.heap.size < w2.heap.size) := Lib.hid (by have := hb2.size; have := HSB.out; omega)
 have HC2 : Hid (Sub w.cell? (wo w.heap.size w2.cell?)) := Lib.hid (wo_old G2.out (Nat.le_refl _))
 clear hx2 hb2
 obtain ⟨x0, hx0⟩ : ∃ y, y = newA n := ⟨_, rfl⟩
 rw [← hx0] at HX2 ⊢
 have HX0 := Lib.hid hx0
 clear hx0
 go_upto_region 2 with fail
 obtain ⟨wz, hwz⟩ : ∃ y : World, y = w2.alloc (.cells #[.slice al x0.head.log.length cl, .int .i64 x0.head.boot, .int .i64 x0.head.next, .slice ao x0.head.opn.length co, .slice ah x0.houses.length ch, .slice an x0.net.length cn] 93) := ⟨_, rfl⟩
 obtain ⟨B6, hB6⟩ : ∃ y, y = w2.heap.size := ⟨_, rfl⟩
 have GZ : Hid (Grow w2 wz) := Lib.hid (by rw [hwz]; exact (Grow.refl _).alloc _)
 have R6 : Hid (wz.heap[B6]? = some (.cells #[.slice al x0.head.log.length cl, .int .i64 x0.head.boot, .int .i64 x0.head.next, .slice ao x0.head.opn.length co, .slice ah x0.houses.length ch, .slice an x0.net.length cn] 93 (0, 0))) := Lib.hid (by rw [hwz, hB6]; exact row_new _ _)
 have HZB : Hid (wz.heap.size = B6 + 1) := Lib.hid (by rw [hwz, hB6]; simp)
 have HB2 : Hid (B6 = w2.heap.size) := Lib.hid hB6
 rw [← hwz, ← hB6]
 clear hwz hB6
 go_wp2
 go_loopw [8, 20] (fun s8 i wr => ∃ (k : Nat) (row : Array Value), k ≤ l.length ∧ k ≤ 150 ∧ i = .int .i64 k ∧ wr.heap[B6]? = some (.cells row 93 (0, 0)) ∧ Of Ty.wd (fc (wo w.heap.size w2.cell?) wz wr [s8.ownBlock]) (.agg row) (playA x0 (l.take k)) ∧ OwnC Ty.int (fun _ => none) wr (B6 + 1) 40 s8 (playE x0 (l.take k)) ∧ Grow w2 wr) (fun _ i _ => l.length - (intOf i).toNat)
 case atStart => exact ⟨0, _, by omega, by omega, rfl, R6.out, HX2.out.mono (fc_in ((wo_sub _ _).trans GZ.out.sub)), OwnC.nil _ _ _ _ _, GZ.out⟩
 case round =>
  obtain ⟨k, row, hk', hk5, rfl, hrow, hx, how, hb⟩ := hrel
  have HEL : Hid (I64 (0 : Int)) := Lib.hid zero_ok
  obtain ⟨a8, c8, rfl⟩ := how.form
  obtain ⟨al2, cl2, ao2, co2, ah2, ch2, an2, cn2, hrw⟩ := hx.wd_form
  simp only [Value.agg.injEq] at hrw
  subst hrw
  have HPL : Hid ((playE x0 (l.take k)).length ≤ 150) := Lib.hid (by rw [playE_len, List.length_take]; omega)
  have HWI : Hid (∃ G, WI n G (playA x0 (l.take k))) := Lib.hid (by rw [HX0.out]; obtain ⟨G, hw, -⟩ := WI.of_play HN.out (l.take k); exact ⟨G, hw⟩)
  have HFW : Hid (Few k (playA x0 (l.take k))) := Lib.hid (by rw [HX0.out]; have h9 := Few.play n (l.take k) (Few.zero n); rw [List.length_take, Nat.min_eq_left hk', Nat.zero_add] at h9; exact h9)
  have HROW := Lib.hid hrow
  have HX := Lib.hid hx
  have HOW := Lib.hid how
  have HB := Lib.hid hb
  have RZR := Lib.hid (row_grow RB2.out hb)
  have hBr : B6 < wr.heap.size := (Array.getElem?_eq_some_iff.1 hrow).1
  have HCR : Hid (Sub (fc (wo w.heap.size w2.cell?) wz wr [(Value.slice a8 (playE x0 (l.take k)).length c8).ownBlock]) wr.cell?) := Lib.hid (fc_cell ((wo_sub _ _).trans hb.sub))
  have HLT8 : Hid (∀ q, (Value.slice a8 (playE x0 (l.take k)).length c8).ownBlock = some q → B6 + 1 ≤ q ∧ q < wr.heap.size) := Lib.hid how.lt
  clear hrow hx how hb
  by_cases hlt : k < l.length
  ·obtain ⟨b, o, vp, rfl, c0, c1, c2, i0, i1, hP⟩ := Sts.at_ hel k hlt
   obtain ⟨ap, cp, rfl, -⟩ := id hP
   have HST : Hid (Of Ty.st w.cell? (.agg #[.int .i64 l[k].kind, .int .i64 l[k].n, .slice ap l[k].parts.length cp]) l[k]) := Lib.hid ⟨_, rfl, _, rfl, i0, i1, hP⟩
   have HNA : Hid (playA x0 (l.take (k + 1)) = doA (playA x0 (l.take k)) l[k]) := Lib.hid (playA_next hlt x0)
   have HNE : Hid (playE x0 (l.take (k + 1)) = playE x0 (l.take k) ++ [doErr (playA x0 (l.take k)) l[k]]) := Lib.hid (playE_next hlt x0)
   have HTA : Hid (k = 150 → playA x0 (l.take 150) = playA x0 (l.take k) ∧ playE x0 (l.take 150) = playE x0 (l.take k)) := Lib.hid (fun e => by rw [e]; exact ⟨rfl, rfl⟩)
   have gs := G2.out.trans HB.out
   replace c0 := gs.sub _ _ c0
   replace c1 := gs.sub _ _ c1
   replace c2 := gs.sub _ _ c2
   clear hel hP i0 i1 gs
   generalize l[k] = st at *
   generalize playA x0 (l.take k) = x at *
   generalize playE x0 (l.take k) = es at *
   go_upto_region 6 with fail
   obtain ⟨ws, hws⟩ : ∃ y : World, y = wr.alloc (.cells #[.int .i64 st.kind, .int .i64 st.n, .slice ap st.parts.length cp] 164) := ⟨_, rfl⟩
   obtain ⟨BS, hBS⟩ : ∃ y, y = wr.heap.size := ⟨_, rfl⟩
   have GS : Hid (Grow wr ws) := Lib.hid (by rw [hws]; exact (Grow.refl _).alloc _)
   have RS : Hid (ws.heap[BS]? = some (.cells #[.int .i64 st.kind, .int .i64 st.n, .slice ap st.parts.length cp] 164 (0, 0))) := Lib.hid (by rw [hws, hBS]; exact row_new _ _)
   rw [← hws, ← hBS]
   clear hws hBS c0 c1 c2
   have RWS := Lib.hid (row_grow HROW.out GS.out)
   have RZS := Lib.hid (row_grow RZR.out GS.out)
   have GBS := Lib.hid (HB.out.trans GS.out)
   have HXS := Lib.hid (HX.out.mono (fc_grow GS.out))
   have HOS := Lib.hid (HOW.out.grow GS.out)
   obtain ⟨x1, x2, x3, x4, x5, x6⟩ := cells6 RWS.out
   obtain ⟨s0, s1, s2⟩ := cells3 RS.out
   have zX : B6 < ws.heap.size := (Array.getElem?_eq_some_iff.1 RWS.out).1
   have zS : BS < ws.heap.size := (Array.getElem?_eq_some_iff.1 RS.out).1
   by_cases h150 : k = 150
   ·have hb150 : ((k : Int) == 150) = true := by simp; omega
    obtain ⟨ea, ee⟩ := HTA.out h150
    have HEA := Lib.hid ea
    have HEE := Lib.hid ee
    clear ea ee h150
    go_wp2_with (first | (refine wpList_store_row rfl (.tmp 4) (.tmp 39) rfl rfl rfl RZS.out info_wd rfl rfl ?_))
    intro w7 r7 g7
    obtain ⟨p0, p1, p2, p3, p4, p5⟩ := cells6 r7
    clear x1 x2 x3 x4 x5 x6
    go_wp2
    refine bodyPost_ret (v := .tuple #[.agg #[.slice al2 x.head.log.length cl2, .int .i64 x.head.boot, .int .i64 x.head.next, .slice ao2 x.head.opn.length co2, .slice ah2 x.houses.length ch2, .slice an2 x.net.length cn2], .slice a8 es.length c8]) (by simp [results, Try.results72, go_sem, p0, p1, p2, p3, p4, p5]) rfl ?_
    have hs1 := HSW.out
    have hs2 := HB2.out
    have hsub : Sub (fc (wo w.heap.size w2.cell?) wz ws [(Value.slice a8 es.length c8).ownBlock]) w7.cell? := fun a9 v9 e9 => by
     have hl := HZB.out
     unfold fc at e9
     split at e9
     ·exact cell_past (GBS.out.sub _ _ (wo_sub _ _ _ _ e9)) g7 (wo_ne e9)
     ·exact cell_past (fr_sub _ _ _ _ _ e9) g7 (by omega)
    have G7 : Grow w w7 := (G2.out.trans GBS.out).grown g7 (fun q hq => by have := Option.some.inj hq; omega)
    rw [← HX0.out, HEA.out, HEE.out]
    exact ⟨_, _, rfl, HXS.out.mono hsub, (HOS.out.kept g7 (own_apart HOS.out (by omega))).sl (by decide) (fun _ _ e9 => by cases e9), G7⟩
   ·have hb150 : ((k : Int) == 150) = false := by simp; omega
    obtain ⟨G, hwi⟩ := HWI.out
    have HDO := Lib.hid (ref_do_step (s := st) ws ((HCR.out).trans GS.out.sub) HX.out (HST.out.mono (HC2.out.trans (fc_in ((wo_sub _ _).trans GZ.out.sub)))) hwi HFW.out (by omega))
    clear hwi HWI HFW HTA
    go_wp2_with fail
    refine HDO.out.mono ?_
    rintro e w3 ⟨v3, rfl, hx3, hb3⟩
    obtain ⟨al3, cl3, ao3, co3, ah3, ch3, an3, cn3, rfl⟩ := hx3.wd_form
    have HX3 : Hid (Of Ty.wd (fc (wo w.heap.size w2.cell?) wz w3 [(Value.slice a8 es.length c8).ownBlock]) (.agg #[.slice al3 (doA x st).head.log.length cl3, .int .i64 (doA x st).head.boot, .int .i64 (doA x st).head.next, .slice ao3 (doA x st).head.opn.length co3, .slice ah3 (doA x st).houses.length ch3, .slice an3 (doA x st).net.length cn3]) (doA x st)) := Lib.hid (hx3.mono (fc_call (GS.out.trans hb3) (by have := HZB.out; omega) (fun k9 hk9 => by simp only [List.mem_singleton]; intro e9; have := (HLT8.out _ e9.symm).2; have := GS.out.size; omega)))
    have RW3 := Lib.hid (row_grow RWS.out hb3)
    have RZ3 := Lib.hid (row_grow RZS.out hb3)
    have GB3 := Lib.hid (GBS.out.trans hb3)
    have HO3 := Lib.hid (HOS.out.grow hb3)
    have HEI := Lib.hid (doErr_ok x st)
    clear hx3 hb3 HDO x1 x2 x3 x4 x5 x6 s0 s1 s2 zX zS
    generalize doA x st = y at *
    generalize doErr x st = er at *
    go_upto_region 8 with fail
    obtain ⟨w4, hw4⟩ : ∃ y9 : World, y9 = w3.alloc (.cells #[.slice al3 y.head.log.length cl3, .int .i64 y.head.boot, .int .i64 y.head.next, .slice ao3 y.head.opn.length co3, .slice ah3 y.houses.length ch3, .slice an3 y.net.length cn3] 93) := ⟨_, rfl⟩
    obtain ⟨BX, hBX⟩ : ∃ y9, y9 = w3.heap.size := ⟨_, rfl⟩
    have G34 : Hid (Grow w3 w4) := Lib.hid (by rw [hw4]; exact (Grow.refl _).alloc _)
    have RX4 : Hid (w4.heap[BX]? = some (.cells #[.slice al3 y.head.log.length cl3, .int .i64 y.head.boot, .int .i64 y.head.next, .slice ao3 y.head.opn.length co3, .slice ah3 y.houses.length ch3, .slice an3 y.net.length cn3] 93 (0, 0))) := Lib.hid (by rw [hw4, hBX]; exact row_new _ _)
    have HBX : Hid (BX = w3.heap.size) := Lib.hid hBX
    rw [← hw4, ← hBX]
    clear hw4 hBX
    have RW4 := Lib.hid (row_grow RW3.out G34.out)
    obtain ⟨x1, x2, x3, x4, x5, x6⟩ := cells6 RX4.out
    have zX : BX < w4.heap.size := (Array.getElem?_eq_some_iff.1 RX4.out).1
    go_wp2_with (first | (refine wpList_store_row rfl (.tmp 6) (.tmp 33) rfl rfl rfl RW4.out info_wd rfl rfl ?_))
    intro w5 r5 g5
    have R65 := Lib.hid r5
    have GB5 := Lib.hid ((GB3.out.trans G34.out).grown g5 (fun q hq => by have := Option.some.inj hq; have := HB2.out; omega))
    have HX5 := Lib.hid ((HX3.out.mono (fc_grow G34.out)).mono (fc_box g5 (by have := HZB.out; omega)))
    have HO5 := Lib.hid ((HO3.out.grow G34.out).kept g5 (own_apart HO3.out (by omega)))
    have HS5 : Hid (B6 + 1 ≤ w5.heap.size) := Lib.hid (by have := (Array.getElem?_eq_some_iff.1 r5).1; omega)
    clear r5 g5 x1 x2 x3 x4 x5 x6 zX
    go_wp2_with (first | (at_builtin; refine wpList_appc (c := fun _ => none) (base := B6 + 1) (l := es) (m := [er]) ei_errno rfl one_Tint (by decide) rfl (.tmp 34) (.tmp 36) rfl rfl (HO5.out.grow ((Grow.refl _).alloc _)) rfl (Src.of_new (T := Ty.int) (x := er) (cs := #[.int .i64 er]) ⟨rfl, HEI.out⟩ _ _ ?d1) ?d2 ?d3 ?_))
    case d1 => first | rfl | simp
    case d2 => have := HPL.out; simp; omega
    case d3 => have := HS5.out; simp; omega
    intro a9 c9 w9 ho9 hg9 hb9
    have HLT5 := HO5.out.lt
    have HX9 := Lib.hid ((HX5.out.mono (fc_grow ((Grow.refl w5).alloc (.cells #[.int .i64 er] 40)))).mono (fc_app hg9 (hb9.imp_right fun ⟨g, e, hge⟩ => ⟨g, e, by simpa using hge⟩)))
    have R69 := Lib.hid (row_by (row_grow R65.out ((Grow.refl w5).alloc (.cells #[.int .i64 er] 40))) hg9 (by intro e; have := (HLT5 _ e.symm).1; omega))
    have GB9 := Lib.hid ((GB5.out.alloc (.cells #[.int .i64 er] 40)).grown hg9 (fun q hq => by have := (HLT5 q hq).1; have := HB2.out; omega))
    have HO9 := Lib.hid ho9
    clear ho9 hg9 hb9 HLT5
    go_wp2
    go_roundw
    case rel => exact ⟨k + 1, _, by omega, by omega, by go_num, R69.out, by rw [HNA.out]; exact HX9.out, by rw [HNE.out]; exact HO9.out, GB9.out⟩
    case measure => simp [intOf]; omega
  ·have HEA : Hid (playA x0 (l.take 150) = playA x0 (l.take k)) := Lib.hid (by rw [List.take_of_length_le (by omega), List.take_of_length_le (by omega)])
   have HEE : Hid (playE x0 (l.take 150) = playE x0 (l.take k)) := Lib.hid (by rw [List.take_of_length_le (by omega), List.take_of_length_le (by omega)])
   clear hel
   generalize playA x0 (l.take k) = x at *
   generalize playE x0 (l.take k) = es at *
   have RZS := Lib.hid RZR.out
   have GBS := Lib.hid HB.out
   have HXS := Lib.hid HX.out
   have HOS := Lib.hid HOW.out
   obtain ⟨x1, x2, x3, x4, x5, x6⟩ := cells6 HROW.out
   go_wp2_with (first | (refine wpList_store_row rfl (.tmp 4) (.tmp 39) rfl rfl rfl RZS.out info_wd rfl rfl ?_))
   intro w7 r7 g7
   obtain ⟨p0, p1, p2, p3, p4, p5⟩ := cells6 r7
   clear x1 x2 x3 x4 x5 x6
   go_wp2
   refine bodyPost_ret (v := .tuple #[.agg #[.slice al2 x.head.log.length cl2, .int .i64 x.head.boot, .int .i64 x.head.next, .slice ao2 x.head.opn.length co2, .slice ah2 x.houses.length ch2, .slice an2 x.net.length cn2], .slice a8 es.length c8]) (by simp [results, Try.results72, go_sem, p0, p1, p2, p3, p4, p5]) rfl ?_
   have hs1 := HSW.out
   have hs2 := HB2.out
   have hsub : Sub (fc (wo w.heap.size w2.cell?) wz wr [(Value.slice a8 es.length c8).ownBlock]) w7.cell? := fun a9 v9 e9 => by
    have hl := HZB.out
    unfold fc at e9
    split at e9
    ·exact cell_past (GBS.out.sub _ _ (wo_sub _ _ _ _ e9)) g7 (wo_ne e9)
    ·exact cell_past (fr_sub _ _ _ _ _ e9) g7 (by omega)
   have G7 : Grow w w7 := (G2.out.trans GBS.out).grown g7 (fun q hq => by have := Option.some.inj hq; omega)
   rw [← HX0.out, HEA.out, HEE.out]
   exact ⟨_, _, rfl, HXS.out.mono hsub, (HOS.out.kept g7 (own_apart HOS.out (by omega))).sl (by decide) (fun _ _ e9 => by cases e9), G7⟩
set_option maxRecDepth 100000 in
set_option maxHeartbeats 2000000 in
theorem ref_sums {v : Value} {x : AW} (w : World) (hv : Of Ty.wd w.cell? v x) (hl : x.houses.length ≤ 3) :
  Calls Try.prog 75 #[v] w fun e w' => ∃ v', e = .returned v' ∧ OwnC Ty.sm (fun _ => none) w' w.heap.size 25 v' (x.houses.map (·.sums)) ∧ Grow w w' := by
 obtain ⟨al, cl, ao, co, ah, ch, an, cn, rfl⟩ := hv.wd_form
 obtain ⟨-, q2, -⟩ := hv.wd_parts
 obtain ⟨ah', ch', he9, h1, h2, -, hel⟩ := q2
 simp only [Value.slice.injEq, true_and] at he9
 obtain ⟨rfl, rfl⟩ := he9
 unfold maxLen at h2
 clear hv
 obtain ⟨wa, hwa⟩ : ∃ y : World, y = w.alloc (.cells #[.slice al x.head.log.length cl, .int .i64 x.head.boot, .int .i64 x.head.next, .slice ao x.head.opn.length co, .slice ah x.houses.length ch, .slice an x.net.length cn] 93) := ⟨_, rfl⟩
 have R1 : Hid (wa.heap[w.heap.size]? = some (.cells #[.slice al x.head.log.length cl, .int .i64 x.head.boot, .int .i64 x.head.next, .slice ao x.head.opn.length co, .slice ah x.houses.length ch, .slice an x.net.length cn] 93 (0, 0))) := Lib.hid (by rw [hwa]; exact row_new _ _)
 have G1 : Hid (Grow w wa) := Lib.hid (by rw [hwa]; exact (Grow.refl w).alloc _)
 have HZ : Hid (wa.heap.size = w.heap.size + 1) := Lib.hid (by rw [hwa]; simp)
 have HWA := Lib.hid hwa
 clear hwa
 go_enter Try.func75, Try.ntmps75
 go_upto_region 1 with fail
 rw [← HWA.out]
 clear HWA
 obtain ⟨c0, c1, c2, c3, c4, c5⟩ := cells6 R1.out
 have z1 : w.heap.size < wa.heap.size := (Array.getElem?_eq_some_iff.1 R1.out).1
 go_wp2
 clear c0 c1 c2 c3 c4 c5
 go_loopw [3, 9] (fun s3 i wr => ∃ k : Nat, k ≤ x.houses.length ∧ i = .int .i64 k ∧ Grow wa wr ∧ OwnC Ty.sm (fun _ => none) wr (w.heap.size + 1) 25 s3 ((x.houses.take k).map (·.sums))) (fun _ i _ => x.houses.length - (intOf i).toNat)
 case atStart => exact ⟨0, by omega, rfl, Grow.refl _, OwnC.nil _ _ _ _ _⟩
 case round =>
  obtain ⟨k, hk', rfl, hb, how⟩ := hrel
  obtain ⟨a3, cap3, rfl⟩ := how.form
  have HO := Lib.hid how
  have HB := Lib.hid hb
  have GB := Lib.hid (G1.out.trans hb)
  clear how hb
  by_cases hlt : k < x.houses.length
  ·obtain ⟨bh, oh, vl, vr, vd, rfl, e0, e1, e2, e3, e4, e5, e6, hH1, s1, s2, s3, s4, hH2, hH3⟩ := Hss.at_ hel k hlt
   obtain ⟨il, jl, rfl, -⟩ := id hH1
   obtain ⟨ir, jr, rfl, -⟩ := id hH2
   obtain ⟨id9, jd, rfl, -⟩ := id hH3
   have HNX := Lib.hid (map_next (fun h : Hs => h.sums) hlt)
   have HSI := Lib.hid (And.intro s1 (And.intro s2 (And.intro s3 s4)))
   have HLL : Hid (((x.houses.take k).map (·.sums)).length ≤ 3) := Lib.hid (by rw [List.length_map, List.length_take]; omega)
   replace e0 := GB.out.sub _ _ e0
   replace e1 := GB.out.sub _ _ e1
   replace e2 := GB.out.sub _ _ e2
   replace e3 := GB.out.sub _ _ e3
   replace e4 := GB.out.sub _ _ e4
   replace e5 := GB.out.sub _ _ e5
   replace e6 := GB.out.sub _ _ e6
   clear hel hH1 hH2 hH3 s1 s2 s3 s4
   generalize x.houses[k] = h at *
   generalize (x.houses.take k).map (·.sums) = ss at *
   go_upto_region 5 with fail
   obtain ⟨wo, hwo⟩ : ∃ y : World, y = wr.alloc (.cells #[.slice il h.log.length jl, .int .i64 h.sums.a, .int .i64 h.sums.b, .int .i64 h.sums.c, .int .i64 h.sums.d, .slice ir h.ready.length jr, .slice id9 h.done.length jd] 29) := ⟨_, rfl⟩
   obtain ⟨BO, hBO⟩ : ∃ y, y = wr.heap.size := ⟨_, rfl⟩
   have GO : Hid (Grow wr wo) := Lib.hid (by rw [hwo]; exact (Grow.refl _).alloc _)
   have RO : Hid (wo.heap[BO]? = some (.cells #[.slice il h.log.length jl, .int .i64 h.sums.a, .int .i64 h.sums.b, .int .i64 h.sums.c, .int .i64 h.sums.d, .slice ir h.ready.length jr, .slice id9 h.done.length jd] 29 (0, 0))) := Lib.hid (by rw [hwo, hBO]; exact row_new _ _)
   rw [← hwo, ← hBO]
   clear hwo hBO e0 e1 e2 e3 e4 e5 e6
   obtain ⟨f0, f1, f2, f3, f4, f5, f6⟩ := cells7 RO.out
   have zO : BO < wo.heap.size := (Array.getElem?_eq_some_iff.1 RO.out).1
   go_wp2_with (first | (at_builtin; refine wpList_appc (c := fun _ => none) (base := w.heap.size + 1) (l := ss) (m := [h.sums]) ei_sm rfl one_Tsm (by decide) rfl (.tmp 13) (.tmp 16) rfl rfl ((HO.out.grow GO.out).grow ((Grow.refl _).alloc _)) rfl (Src.of_new (T := Ty.sm) (x := h.sums) (cs := #[.int .i64 h.sums.a, .int .i64 h.sums.b, .int .i64 h.sums.c, .int .i64 h.sums.d]) ⟨rfl, HSI.out.1, HSI.out.2.1, HSI.out.2.2.1, HSI.out.2.2.2⟩ _ _ ?d1) ?d2 ?d3 ?_))
   case d1 => first | rfl | simp
   case d2 => have := HLL.out; simp; omega
   case d3 => have := HB.out.size; have := GO.out.size; have := HZ.out; simp; omega
   intro a9 c9 w9 ho9 hg9 hb9
   have HG9 : Hid (Grow wa w9) := Lib.hid (grow_by (w0 := wa) ((HB.out.trans GO.out).alloc _) hg9 (fun q hq => by have := (HO.out.lt q hq).1; have := HZ.out; omega))
   have HO9 := Lib.hid ho9
   clear ho9 hg9 hb9 f0 f1 f2 f3 f4 f5 f6 zO
   go_wp2
   go_roundw
   case rel => exact ⟨k + 1, by omega, by go_num, HG9.out, by rw [HNX.out]; exact HO9.out⟩
   case measure => simp [intOf]; omega
  ·have HTL : Hid ((x.houses.take k).map (·.sums) = x.houses.map (·.sums)) := Lib.hid (by rw [List.take_of_length_le (by omega)])
   clear hel
   obtain ⟨ss, hss⟩ : ∃ y, y = x.houses.map (·.sums) := ⟨_, rfl⟩
   rw [HTL.out, ← hss] at HO ⊢
   have HSS := Lib.hid hss
   clear HTL hss
   go_wp2
   go_ret
   exact ⟨_, rfl, by rw [← HSS.out]; exact HO.out.base (Nat.le_succ _), GB.out⟩
set_option maxRecDepth 100000 in
set_option maxHeartbeats 2000000 in
theorem look_sums {v : Value} {x : AW} (w : World) (hv : Of Ty.wd w.cell? v x) (hl : x.houses.length ≤ 3) :
  Calls Try.prog 74 #[v] w fun e w' => ∃ v', e = .returned v' ∧ OwnC Ty.sm (fun _ => none) w' w.heap.size 25 v' (x.houses.map (·.sums)) ∧ Grow w w' := by
 obtain ⟨al, cl, ao, co, ah, ch, an, cn, rfl⟩ := hv.wd_form
 obtain ⟨-, q2, -⟩ := hv.wd_parts
 obtain ⟨ah', ch', he9, h1, h2, -, hel⟩ := q2
 simp only [Value.slice.injEq, true_and] at he9
 obtain ⟨rfl, rfl⟩ := he9
 unfold maxLen at h2
 clear hv
 obtain ⟨wa, hwa⟩ : ∃ y : World, y = w.alloc (.cells #[.slice al x.head.log.length cl, .int .i64 x.head.boot, .int .i64 x.head.next, .slice ao x.head.opn.length co, .slice ah x.houses.length ch, .slice an x.net.length cn] 93) := ⟨_, rfl⟩
 have R1 : Hid (wa.heap[w.heap.size]? = some (.cells #[.slice al x.head.log.length cl, .int .i64 x.head.boot, .int .i64 x.head.next, .slice ao x.head.opn.length co, .slice ah x.houses.length ch, .slice an x.net.length cn] 93 (0, 0))) := Lib.hid (by rw [hwa]; exact row_new _ _)
 have G1 : Hid (Grow w wa) := Lib.hid (by rw [hwa]; exact (Grow.refl w).alloc _)
 have HZ : Hid (wa.heap.size = w.heap.size + 1) := Lib.hid (by rw [hwa]; simp)
 have HWA := Lib.hid hwa
 clear hwa
 go_enter Try.func74, Try.ntmps74
 go_upto_region 1 with fail
 rw [← HWA.out]
 clear HWA
 obtain ⟨c0, c1, c2, c3, c4, c5⟩ := cells6 R1.out
 have z1 : w.heap.size < wa.heap.size := (Array.getElem?_eq_some_iff.1 R1.out).1
 go_wp2
 clear c0 c1 c2 c3 c4 c5
 go_loopw [3, 9] (fun s3 i wr => ∃ k : Nat, k ≤ x.houses.length ∧ i = .int .i64 k ∧ Grow wa wr ∧ OwnC Ty.sm (fun _ => none) wr (w.heap.size + 1) 25 s3 ((x.houses.take k).map (·.sums))) (fun _ i _ => x.houses.length - (intOf i).toNat)
 case atStart => exact ⟨0, by omega, rfl, Grow.refl _, OwnC.nil _ _ _ _ _⟩
 case round =>
  obtain ⟨k, hk', rfl, hb, how⟩ := hrel
  obtain ⟨a3, cap3, rfl⟩ := how.form
  have HO := Lib.hid how
  have HB := Lib.hid hb
  have GB := Lib.hid (G1.out.trans hb)
  clear how hb
  by_cases hlt : k < x.houses.length
  ·obtain ⟨bh, oh, vl, vr, vd, rfl, e0, e1, e2, e3, e4, e5, e6, hH1, s1, s2, s3, s4, hH2, hH3⟩ := Hss.at_ hel k hlt
   obtain ⟨il, jl, rfl, -⟩ := id hH1
   obtain ⟨ir, jr, rfl, -⟩ := id hH2
   obtain ⟨id9, jd, rfl, -⟩ := id hH3
   have HNX := Lib.hid (map_next (fun h : Hs => h.sums) hlt)
   have HSI := Lib.hid (And.intro s1 (And.intro s2 (And.intro s3 s4)))
   have HLL : Hid (((x.houses.take k).map (·.sums)).length ≤ 3) := Lib.hid (by rw [List.length_map, List.length_take]; omega)
   replace e0 := GB.out.sub _ _ e0
   replace e1 := GB.out.sub _ _ e1
   replace e2 := GB.out.sub _ _ e2
   replace e3 := GB.out.sub _ _ e3
   replace e4 := GB.out.sub _ _ e4
   replace e5 := GB.out.sub _ _ e5
   replace e6 := GB.out.sub _ _ e6
   clear hel hH1 hH2 hH3 s1 s2 s3 s4
   generalize x.houses[k] = h at *
   generalize (x.houses.take k).map (·.sums) = ss at *
   go_upto_region 5 with fail
   obtain ⟨wo, hwo⟩ : ∃ y : World, y = wr.alloc (.cells #[.slice il h.log.length jl, .int .i64 h.sums.a, .int .i64 h.sums.b, .int .i64 h.sums.c, .int .i64 h.sums.d, .slice ir h.ready.length jr, .slice id9 h.done.length jd] 29) := ⟨_, rfl⟩
   obtain ⟨BO, hBO⟩ : ∃ y, y = wr.heap.size := ⟨_, rfl⟩
   have GO : Hid (Grow wr wo) := Lib.hid (by rw [hwo]; exact (Grow.refl _).alloc _)
   have RO : Hid (wo.heap[BO]? = some (.cells #[.slice il h.log.length jl, .int .i64 h.sums.a, .int .i64 h.sums.b, .int .i64 h.sums.c, .int .i64 h.sums.d, .slice ir h.ready.length jr, .slice id9 h.done.length jd] 29 (0, 0))) := Lib.hid (by rw [hwo, hBO]; exact row_new _ _)
   rw [← hwo, ← hBO]
   clear hwo hBO e0 e1 e2 e3 e4 e5 e6
   obtain ⟨f0, f1, f2, f3, f4, f5, f6⟩ := cells7 RO.out
   have zO : BO < wo.heap.size := (Array.getElem?_eq_some_iff.1 RO.out).1
   go_wp2_with (first | (at_builtin; refine wpList_appc (c := fun _ => none) (base := w.heap.size + 1) (l := ss) (m := [h.sums]) ei_sm rfl one_Tsm (by decide) rfl (.tmp 13) (.tmp 16) rfl rfl ((HO.out.grow GO.out).grow ((Grow.refl _).alloc _)) rfl (Src.of_new (T := Ty.sm) (x := h.sums) (cs := #[.int .i64 h.sums.a, .int .i64 h.sums.b, .int .i64 h.sums.c, .int .i64 h.sums.d]) ⟨rfl, HSI.out.1, HSI.out.2.1, HSI.out.2.2.1, HSI.out.2.2.2⟩ _ _ ?d1) ?d2 ?d3 ?_))
   case d1 => first | rfl | simp
   case d2 => have := HLL.out; simp; omega
   case d3 => have := HB.out.size; have := GO.out.size; have := HZ.out; simp; omega
   intro a9 c9 w9 ho9 hg9 hb9
   have HG9 : Hid (Grow wa w9) := Lib.hid (grow_by (w0 := wa) ((HB.out.trans GO.out).alloc _) hg9 (fun q hq => by have := (HO.out.lt q hq).1; have := HZ.out; omega))
   have HO9 := Lib.hid ho9
   clear ho9 hg9 hb9 f0 f1 f2 f3 f4 f5 f6 zO
   go_wp2
   go_roundw
   case rel => exact ⟨k + 1, by omega, by go_num, HG9.out, by rw [HNX.out]; exact HO9.out⟩
   case measure => simp [intOf]; omega
  ·have HTL : Hid ((x.houses.take k).map (·.sums) = x.houses.map (·.sums)) := Lib.hid (by rw [List.take_of_length_le (by omega)])
   clear hel
   obtain ⟨ss, hss⟩ : ∃ y, y = x.houses.map (·.sums) := ⟨_, rfl⟩
   rw [HTL.out, ← hss] at HO ⊢
   have HSS := Lib.hid hss
   clear HTL hss
   go_wp2
   go_ret
   exact ⟨_, rfl, by rw [← HSS.out]; exact HO.out.base (Nat.le_succ _), GB.out⟩
set_option maxRecDepth 100000 in
set_option maxHeartbeats 4000000 in
theorem ref_openDeeds {v : Value} {x : AW} (w : World) (hv : Of Ty.wd w.cell? v x) (hl : x.houses.length ≤ 3) (hg : x.head.log.length ≤ 100000) (hp : ∀ r ∈ decidedR x.head.log, r.parts.length ≤ 4) :
  Calls Try.prog 77 #[v] w fun e w' => ∃ v', e = .returned v' ∧ OwnC Ty.int (fun _ => none) w' w.heap.size 3 v' (opensE x) ∧ Grow w w' := by
 obtain ⟨al, cl, ao, co, ah, ch, an, cn, rfl⟩ := hv.wd_form
 obtain ⟨q1, q2, -⟩ := hv.wd_parts
 have HLG := Lib.hid (Of.hd_log q1).1
 obtain ⟨ah', ch', he9, h1, h2, -, hel⟩ := q2
 simp only [Value.slice.injEq, true_and] at he9
 obtain ⟨rfl, rfl⟩ := he9
 unfold maxLen at h2
 have HEL := Lib.hid hel
 have HPP := Lib.hid hp
 have HGG := Lib.hid hg
 have HOI : Hid (∀ y, isOpen x y = true ↔ rdAt x.houses y ∨ dcAll x.houses (decidedR x.head.log) y) := Lib.hid (fun y => isOpen_iff)
 clear hv q1 hel hp hg
 have hzb : ∀ w, (zeroValue 4).run Try.prog w = .ok (.bool false) w := fun w => by kernel_rfl
 have hmm := @run_makeMap Try.prog
 obtain ⟨wa, hwa⟩ : ∃ y : World, y = w.alloc (.cells #[.slice al x.head.log.length cl, .int .i64 x.head.boot, .int .i64 x.head.next, .slice ao x.head.opn.length co, .slice ah x.houses.length ch, .slice an x.net.length cn] 93) := ⟨_, rfl⟩
 have RA : Hid (wa.heap[w.heap.size]? = some (.cells #[.slice al x.head.log.length cl, .int .i64 x.head.boot, .int .i64 x.head.next, .slice ao x.head.opn.length co, .slice ah x.houses.length ch, .slice an x.net.length cn] 93 (0, 0))) := Lib.hid (by rw [hwa]; exact row_new _ _)
 have GA : Hid (Grow w wa) := Lib.hid (by rw [hwa]; exact (Grow.refl w).alloc _)
 have HZA : Hid (wa.heap.size = w.heap.size + 1) := Lib.hid (by rw [hwa]; simp)
 have HWA := Lib.hid hwa
 clear hwa
 go_enter Try.func77, Try.ntmps77
 go_upto_region 1 with fail
 rw [← HWA.out]
 clear HWA
 go_upto_region 2 with fail
 obtain ⟨wm, hwm⟩ : ∃ y : World, y = wa.alloc (.map #[] 0) := ⟨_, rfl⟩
 have HM0 : Hid (MapIs encInt wm (w.heap.size + 1) (setKv [])) := Lib.hid (by rw [hwm, ← HZA.out]; exact MapIs.new wa)
 have G1 : Hid (Grow w wm) := Lib.hid (by rw [hwm]; exact GA.out.alloc _)
 have R1 : Hid (wm.heap[w.heap.size]? = some (.cells #[.slice al x.head.log.length cl, .int .i64 x.head.boot, .int .i64 x.head.next, .slice ao x.head.opn.length co, .slice ah x.houses.length ch, .slice an x.net.length cn] 93 (0, 0))) := Lib.hid (by rw [hwm]; exact heap_later RA.out _)
 have HZ : Hid (wm.heap.size = w.heap.size + 2) := Lib.hid (by rw [hwm]; simp [HZA.out])
 rw [← hwm]
 try rw [HZA.out]
 clear hwm
 obtain ⟨c0, c1, c2, c3, c4, c5⟩ := cells6 R1.out
 have z1 : w.heap.size < wm.heap.size := (Array.getElem?_eq_some_iff.1 R1.out).1
 go_wp2
 clear c0 c1 c2 c3 c4 c5 z1
 go_loopw [18] (fun i wr => ∃ (k : Nat) (ks : List Int), k ≤ x.houses.length ∧ i = .int .i64 k ∧ Grow w wr ∧ wr.heap[w.heap.size]? = some (.cells #[.slice al x.head.log.length cl, .int .i64 x.head.boot, .int .i64 x.head.next, .slice ao x.head.opn.length co, .slice ah x.houses.length ch, .slice an x.net.length cn] 93 (0, 0)) ∧ MapIs encInt wr (w.heap.size + 1) (setKv ks) ∧ ∀ y, y ∈ ks ↔ rdAt (x.houses.take k) y) (fun i _ => x.houses.length - (intOf i).toNat)
 case atStart => exact ⟨0, [], by omega, rfl, G1.out, R1.out, HM0.out, fun y => ⟨fun h => by simp at h, fun h => absurd h (rdAt_none y)⟩⟩
 case round =>
  obtain ⟨k, ks, hk', rfl, hb, hrow, hmap, hks⟩ := hrel
  by_cases hlt : k < x.houses.length
  ·obtain ⟨bh, oh, vl, vr, vd, rfl, e0, e1, e2, e3, e4, e5, e6, hH1, -, -, -, -, hH2, hH3⟩ := Hss.at_ HEL.out k hlt
   obtain ⟨il, jl, rfl, -⟩ := id hH1
   obtain ⟨id9, jd, rfl, -⟩ := id hH3
   obtain ⟨ir, jr, rfl, hr1, hr2, -, hrel9⟩ := hH2
   unfold maxLen at hr2
   have HNX := Lib.hid (rdAt_next hlt)
   have HRN := Lib.hid (fun (j : Nat) (hj : j < x.houses[k].ready.length) (y : Int) => readyE_next hj y)
   have HR0 : Hid (∀ y : Int, readyE ([] : List Rd) y = false) := Lib.hid (fun y => rfl)
   have HRE := Lib.hid hrel9
   have HKS := Lib.hid hks
   have HM := Lib.hid hmap
   have HROW := Lib.hid hrow
   have HB := Lib.hid hb
   replace e0 := hb.sub _ _ e0
   replace e1 := hb.sub _ _ e1
   replace e2 := hb.sub _ _ e2
   replace e3 := hb.sub _ _ e3
   replace e4 := hb.sub _ _ e4
   replace e5 := hb.sub _ _ e5
   replace e6 := hb.sub _ _ e6
   clear hH1 hH3 hrel9 hks hmap hrow hb
   generalize x.houses[k] = h at *
   go_upto_region 5 with fail
   obtain ⟨wo, hwo⟩ : ∃ y : World, y = wr.alloc (.cells #[.slice il h.log.length jl, .int .i64 h.sums.a, .int .i64 h.sums.b, .int .i64 h.sums.c, .int .i64 h.sums.d, .slice ir h.ready.length jr, .slice id9 h.done.length jd] 29) := ⟨_, rfl⟩
   obtain ⟨BO, hBO⟩ : ∃ y, y = wr.heap.size := ⟨_, rfl⟩
   have GO : Hid (Grow wr wo) := Lib.hid (by rw [hwo]; exact (Grow.refl _).alloc _)
   have RO : Hid (wo.heap[BO]? = some (.cells #[.slice il h.log.length jl, .int .i64 h.sums.a, .int .i64 h.sums.b, .int .i64 h.sums.c, .int .i64 h.sums.d, .slice ir h.ready.length jr, .slice id9 h.done.length jd] 29 (0, 0))) := Lib.hid (by rw [hwo, hBO]; exact row_new _ _)
   rw [← hwo, ← hBO]
   clear hwo hBO e0 e1 e2 e3 e4 e5 e6
   obtain ⟨f0, f1, f2, f3, f4, f5, f6⟩ := cells7 RO.out
   have zO : BO < wo.heap.size := (Array.getElem?_eq_some_iff.1 RO.out).1
   go_wp2
   clear f0 f1 f2 f3 f4 f5 f6 zO
   obtain ⟨wx, hwx⟩ : ∃ y : World, y = wr := ⟨_, rfl⟩
   rw [← hwx] at GO HM HROW HB
   clear hwx
   go_loopw [25] (fun i2 wr => ∃ (j : Nat) (ks2 : List Int), j ≤ h.ready.length ∧ i2 = .int .i64 j ∧ Grow w wr ∧ wr.heap[w.heap.size]? = some (.cells #[.slice al x.head.log.length cl, .int .i64 x.head.boot, .int .i64 x.head.next, .slice ao x.head.opn.length co, .slice (some ⟨bh, oh, none⟩) x.houses.length ch, .slice an x.net.length cn] 93 (0, 0)) ∧ MapIs encInt wr (w.heap.size + 1) (setKv ks2) ∧ ∀ y, y ∈ ks2 ↔ rdAt (x.houses.take k) y ∨ readyE (h.ready.take j) y = true) (fun i2 _ => h.ready.length - (intOf i2).toNat)
   case atStart => exact ⟨0, ks, by omega, rfl, HB.out.trans GO.out, row_grow HROW.out GO.out, HM.out.grown (grownBy_of_grow GO.out none) (by simp), fun y => by rw [HKS.out y]; constructor; exact .inl; rintro (a | a); exact a; simp [HR0.out] at a⟩
   case round =>
    obtain ⟨j, ks2, hj', rfl, hb2, hrow2, hmap2, hks2⟩ := hrel
    by_cases hjl : j < h.ready.length
    ·obtain ⟨br, orr, vp, rfl, t0, t1, -, hP⟩ := Rds.at_ HRE.out j hjl
     obtain ⟨ap, cp, rfl, -⟩ := id hP
     have HN2 := Lib.hid (HRN.out j hjl)
     have HK2 := Lib.hid hks2
     have HM2 := Lib.hid hmap2
     have HR2 := Lib.hid hrow2
     have HB2 := Lib.hid hb2
     replace t0 := hb2.sub _ _ t0
     replace t1 := hb2.sub _ _ t1
     clear hP hks2 hmap2 hrow2 hb2
     generalize h.ready[j] = r at *
     go_wp2_with (first | (at_mapUpdate; refine wp_put keyInt Try.underlying63 rfl _ _ _ rfl (HM2.out.grown (grownBy_of_grow ((Grow.refl _).alloc _) none) (by simp)) r.deed (.bool true) rfl rfl rfl ?_; intro wq hm' hg'; have HMQ := Lib.hid hm'; have HGQ := Lib.hid hg'; clear hm' hg'))
     obtain ⟨ks3, hk3, hmem⟩ := mput_set ks2 r.deed
     have hm' := HMQ.out
     rw [hk3] at hm'
     have HG2 := Lib.hid ((HB2.out.alloc (.cells #[.int .i64 r.deed, .slice ap r.parts.length cp] 45)).grown HGQ.out (fun q hq => by have := Option.some.inj hq; omega))
     have HR3 := Lib.hid (row_by (row_grow HR2.out ((Grow.refl _).alloc (.cells #[.int .i64 r.deed, .slice ap r.parts.length cp] 45))) HGQ.out (by intro e; have := Option.some.inj e; omega))
     have HM3 := Lib.hid hm'
     clear hm'
     try go_wp2
     go_roundw
     case rel => exact ⟨j + 1, ks3, by omega, by go_num, HG2.out, HR3.out, HM3.out, fun y => by rw [hmem, HK2.out, HN2.out y, or_assoc]; constructor <;> (rintro (a | a | a)) <;> first | exact .inl a | exact .inr (.inl a) | exact .inr (.inr a.symm) | exact .inr (.inr (by rw [a]))⟩
     case measure => simp [intOf]; omega
    ·have HK2 := Lib.hid hks2
     have HM2 := Lib.hid hmap2
     have HR2 := Lib.hid hrow2
     have HB2 := Lib.hid hb2
     clear hks2 hmap2 hrow2 hb2
     have hTL : h.ready.take j = h.ready := List.take_of_length_le (by omega)
     rw [hTL] at HK2
     clear hTL
     go_wp2
     go_roundw
     case rel => exact ⟨k + 1, ks2, by omega, by go_num, HB2.out, HR2.out, HM2.out, fun y => by rw [HK2.out, HNX.out y]⟩
     case measure => simp [intOf]; omega
  ·have HKS := Lib.hid hks
   have HM := Lib.hid hmap
   have HROW := Lib.hid hrow
   have HB := Lib.hid hb
   rw [List.take_of_length_le (by omega)] at HKS
   clear hks hmap hrow hb
   obtain ⟨c0, c1, c2, c3, c4, c5⟩ := cells6 HROW.out
   have z1 : w.heap.size < wr.heap.size := (Array.getElem?_eq_some_iff.1 HROW.out).1
   go_wp2_with fail
   refine (ref_decided (c := w.cell?) (l := x.head.log) _ HB.out.sub HLG.out (by have := HGG.out; omega)).mono ?_
   rintro e w5 ⟨v5, rfl, ho5, hb5⟩
   obtain ⟨a5, cap5, rfl⟩ := ho5.form
   have HO5 := Lib.hid ho5
   have HB5 := Lib.hid (HB.out.trans hb5)
   have HR5 := Lib.hid (row_grow HROW.out hb5)
   have HM5 := Lib.hid (HM.out.grown (grownBy_of_grow hb5 none) (by simp))
   have HS5 : Hid (w.heap.size + 2 ≤ wr.heap.size) := Lib.hid (by have := HM.out.lt; omega)
   clear ho5 hb5 c0 c1 c2 c3 c4 c5 z1
   have hdl : (decidedR x.head.log).length ≤ 100000 := by unfold decidedR; rw [List.length_map]; exact Nat.le_trans (List.length_filter_le _ _) HGG.out
   obtain ⟨D, hD⟩ : ∃ y, y = decidedR x.head.log := ⟨_, rfl⟩
   rw [← hD] at HO5 HOI HPP hdl ⊢
   clear hD
   obtain ⟨BD, hBD⟩ : ∃ y, y = wr.heap.size := ⟨_, rfl⟩
   rw [← hBD] at HO5 HS5
   clear hBD
   go_wp2
   go_loopw [39] (fun i wr => ∃ (k : Nat) (ks : List Int), k ≤ D.length ∧ i = .int .i64 k ∧ Grow w wr ∧ wr.heap[w.heap.size]? = some (.cells #[.slice al x.head.log.length cl, .int .i64 x.head.boot, .int .i64 x.head.next, .slice ao x.head.opn.length co, .slice ah x.houses.length ch, .slice an x.net.length cn] 93 (0, 0)) ∧ MapIs encInt wr (w.heap.size + 1) (setKv ks) ∧ OwnC Ty.rd w.cell? wr BD 45 (.slice a5 D.length cap5) D ∧ ∀ y, y ∈ ks ↔ rdAt x.houses y ∨ dcAll x.houses (D.take k) y) (fun i _ => D.length - (intOf i).toNat)
   case atStart => exact ⟨0, ks, by omega, rfl, HB5.out, HR5.out, HM5.out, HO5.out, fun y => by rw [HKS.out y]; constructor; exact .inl; rintro (a | a); exact a; exact absurd a (dcAll_none _ _)⟩
   case round =>
    obtain ⟨k3, ks3, hk3', rfl, hb3, hrow3, hmap3, hod3, hks3⟩ := hrel
    by_cases hlt3 : k3 < D.length
    ·obtain ⟨bd, cs, rfl, hRR, hAt⟩ := hod3.get (by decide) k3 hlt3
     obtain ⟨vp, rfl, hdi, hP⟩ := hRR
     have t0 := hAt 0 _ rfl
     have t1 := hAt 1 _ rfl
     simp only [show Ty.rd.size = 2 from rfl, Nat.add_zero] at t0 t1
     obtain ⟨ap, cp, rfl, -⟩ := id hP
     have HDN := Lib.hid (dcAll_next (hs := x.houses) hlt3)
     have HDP := Lib.hid (HPP.out _ (List.getElem_mem hlt3))
     have HPR := Lib.hid hP
     have HK3 := Lib.hid hks3
     have HM3 := Lib.hid hmap3
     have HR3 := Lib.hid hrow3
     have HB3 := Lib.hid hb3
     have HO3 := Lib.hid hod3
     clear hP hks3 hmap3 hrow3 hb3 hod3 hAt
     generalize D[k3] = r at *
     go_upto_region 14 with fail
     obtain ⟨wq3, hwq⟩ : ∃ y : World, y = wr.alloc (.cells #[.int .i64 r.deed, .slice ap r.parts.length cp] 45) := ⟨_, rfl⟩
     obtain ⟨BR, hBR⟩ : ∃ y, y = wr.heap.size := ⟨_, rfl⟩
     have GQ : Hid (Grow wr wq3) := Lib.hid (by rw [hwq]; exact (Grow.refl _).alloc _)
     have RQ : Hid (wq3.heap[BR]? = some (.cells #[.int .i64 r.deed, .slice ap r.parts.length cp] 45 (0, 0))) := Lib.hid (by rw [hwq, hBR]; exact row_new _ _)
     have HBR : Hid (w.heap.size + 2 ≤ BR) := Lib.hid (by have := HM3.out.lt; omega)
     rw [← hwq, ← hBR]
     clear hwq hBR t0 t1
     have HR4 := Lib.hid (row_grow HR3.out GQ.out)
     obtain ⟨c0, c1, c2, c3, c4, c5⟩ := cells6 HR4.out
     have z1 : w.heap.size < wq3.heap.size := (Array.getElem?_eq_some_iff.1 HR4.out).1
     go_wp2
     clear c0 c1 c2 c3 c4 c5 z1
     obtain ⟨wx, hwx⟩ : ∃ y : World, y = wr := ⟨_, rfl⟩
     rw [← hwx] at GQ HM3 HR3 HB3 HO3
     clear hwx
     go_loopw [46] (fun i2 wr => ∃ (j : Nat) (ks2 : List Int), j ≤ x.houses.length ∧ i2 = .int .i64 j ∧ Grow w wr ∧ Sub w.cell? wr.cell? ∧ wr.heap[w.heap.size]? = some (.cells #[.slice al x.head.log.length cl, .int .i64 x.head.boot, .int .i64 x.head.next, .slice ao x.head.opn.length co, .slice ah x.houses.length ch, .slice an x.net.length cn] 93 (0, 0)) ∧ MapIs encInt wr (w.heap.size + 1) (setKv ks2) ∧ OwnC Ty.rd w.cell? wr BD 45 (.slice (some ⟨bd, 0, none⟩) D.length cap5) D ∧ wr.heap[BR]? = some (.cells #[.int .i64 r.deed, .slice ap r.parts.length cp] 45 (0, 0)) ∧ ∀ y, y ∈ ks2 ↔ (rdAt x.houses y ∨ dcAll x.houses (D.take k3) y) ∨ (r.deed = y ∧ dcAt x.houses r j)) (fun i2 _ => x.houses.length - (intOf i2).toNat)
     case atStart => exact ⟨0, ks3, by omega, rfl, HB3.out.trans GQ.out, (HB3.out.trans GQ.out).sub, HR4.out, HM3.out.grown (grownBy_of_grow GQ.out none) (by simp), HO3.out.grow GQ.out, RQ.out, fun y => by rw [HK3.out y]; constructor; exact .inl; rintro (a | ⟨-, a⟩); exact a; exact absurd a dcAt_zero⟩
     case round =>
      obtain ⟨j, ks2, hj', rfl, hb2, hs2, hrow2, hmap2, hod2, hrq2, hks2⟩ := hrel
      by_cases hjl : j < x.houses.length
      ·obtain ⟨bh, oh, vl, vr, vd, rfl, e0, e1, e2, e3, e4, e5, e6, hH1, -, -, -, -, hH2, hH3⟩ := Hss.at_ HEL.out j hjl
       obtain ⟨il, jl, rfl, -⟩ := id hH1
       obtain ⟨ir, jr, rfl, -⟩ := id hH2
       obtain ⟨id9, jd, rfl, -⟩ := id hH3
       have HDX := Lib.hid (dcAt_next (r := r) (List.getElem?_eq_getElem hjl))
       have HDI := Lib.hid hH3
       have HK2 := Lib.hid hks2
       have HM2 := Lib.hid hmap2
       have HR2 := Lib.hid hrow2
       have HB2 := Lib.hid hb2
       have HO2 := Lib.hid hod2
       have HQ2 := Lib.hid hrq2
       replace e0 := hb2.sub _ _ e0
       replace e1 := hb2.sub _ _ e1
       replace e2 := hb2.sub _ _ e2
       replace e3 := hb2.sub _ _ e3
       replace e4 := hb2.sub _ _ e4
       replace e5 := hb2.sub _ _ e5
       replace e6 := hb2.sub _ _ e6
       clear hH1 hH2 hH3 hks2 hmap2 hrow2 hb2 hs2 hod2 hrq2
       generalize x.houses[j] = h at *
       go_upto_region 17 with fail
       obtain ⟨wo, hwo⟩ : ∃ y : World, y = wr.alloc (.cells #[.slice il h.log.length jl, .int .i64 h.sums.a, .int .i64 h.sums.b, .int .i64 h.sums.c, .int .i64 h.sums.d, .slice ir h.ready.length jr, .slice id9 h.done.length jd] 29) := ⟨_, rfl⟩
       obtain ⟨BO, hBO⟩ : ∃ y, y = wr.heap.size := ⟨_, rfl⟩
       have GO : Hid (Grow wr wo) := Lib.hid (by rw [hwo]; exact (Grow.refl _).alloc _)
       have RO : Hid (wo.heap[BO]? = some (.cells #[.slice il h.log.length jl, .int .i64 h.sums.a, .int .i64 h.sums.b, .int .i64 h.sums.c, .int .i64 h.sums.d, .slice ir h.ready.length jr, .slice id9 h.done.length jd] 29 (0, 0))) := Lib.hid (by rw [hwo, hBO]; exact row_new _ _)
       rw [← hwo, ← hBO]
       clear hwo hBO e0 e1 e2 e3 e4 e5 e6
       have RQO := Lib.hid (row_grow HQ2.out GO.out)
       obtain ⟨s0, s1⟩ := cells2 RQO.out
       have zR : BR < wo.heap.size := (Array.getElem?_eq_some_iff.1 RQO.out).1
       go_wp2_with fail
       refine (ref_of (n := (j : Int)) _ (HPR.out.mono (HB2.out.trans GO.out).sub) (by have := HDP.out; omega)).mono ?_
       rintro e w6 ⟨v6, rfl, ho6, hb6⟩
       obtain ⟨a6, c6, rfl⟩ := owns_form ho6
       have G6 := Lib.hid (GO.out.trans hb6)
       have RQ6 := Lib.hid (row_grow RQO.out hb6)
       have RO6 := Lib.hid (row_grow RO.out hb6)
       clear ho6 hb6 s0 s1 zR
       by_cases hpl : ofL r.parts (j : Int) = []
       ·have hb0 : ¬ (0 : Int) < ((ofL r.parts (j : Int)).length : Int) := by rw [hpl]; simp
        have HPL := Lib.hid hpl
        clear hpl
        generalize ofL r.parts (j : Int) = pl at *
        go_wp2
        go_roundw
        case rel => exact ⟨j + 1, ks2, by omega, by go_num, HB2.out.trans G6.out, (HB2.out.trans G6.out).sub, row_grow HR2.out G6.out, HM2.out.grown (grownBy_of_grow G6.out none) (by simp), HO2.out.grow G6.out, RQ6.out, fun y => by rw [HK2.out y, HDX.out]; constructor; (rintro (a | ⟨a, b⟩); exact .inl a; exact .inr ⟨a, .inl b⟩); (rintro (a | ⟨a, b | b⟩); exact .inl a; exact .inr ⟨a, b⟩; exact absurd HPL.out b.1)⟩
        case measure => simp [intOf]; omega
       ·have hb0 : (0 : Int) < ((ofL r.parts (j : Int)).length : Int) := by have := List.length_pos_iff.2 hpl; omega
        have HPL := Lib.hid hpl
        clear hpl
        generalize ofL r.parts (j : Int) = pl at *
        obtain ⟨s0, s1⟩ := cells2 RQ6.out
        obtain ⟨f0, f1, f2, f3, f4, f5, f6⟩ := cells7 RO6.out
        have zR : BR < w6.heap.size := (Array.getElem?_eq_some_iff.1 RQ6.out).1
        have zO : BO < w6.heap.size := (Array.getElem?_eq_some_iff.1 RO6.out).1
        go_wp2_with fail
        refine (ref_in (n := r.deed) _ (HDI.out.mono (HB2.out.trans G6.out).sub)).mono ?_
        rintro e w7 ⟨rfl, hb7⟩
        have G7 := Lib.hid (G6.out.trans hb7)
        have RQ7 := Lib.hid (row_grow RQ6.out hb7)
        clear hb7 s0 s1 f0 f1 f2 f3 f4 f5 f6 zR zO
        obtain ⟨tn, htn⟩ : ∃ b : Bool, b = decide (r.deed ∈ h.done) := ⟨_, rfl⟩
        rw [← htn]
        have HTN := Lib.hid htn
        clear htn
        cases tn with
        | true =>
         have HIN := Lib.hid (of_decide_eq_true HTN.out.symm)
         go_wp2
         go_roundw
         case rel => exact ⟨j + 1, ks2, by omega, by go_num, HB2.out.trans G7.out, (HB2.out.trans G7.out).sub, row_grow HR2.out G7.out, HM2.out.grown (grownBy_of_grow G7.out none) (by simp), HO2.out.grow G7.out, RQ7.out, fun y => by rw [HK2.out y, HDX.out]; constructor; (rintro (a | ⟨a, b⟩); exact .inl a; exact .inr ⟨a, .inl b⟩); (rintro (a | ⟨a, b | b⟩); exact .inl a; exact .inr ⟨a, b⟩; exact absurd HIN.out b.2)⟩
         case measure => simp [intOf]; omega
        | false =>
         have HIN := Lib.hid (of_decide_eq_false HTN.out.symm)
         have HM7 := Lib.hid (HM2.out.grown (grownBy_of_grow G7.out none) (by simp))
         obtain ⟨s0, s1⟩ := cells2 RQ7.out
         have zR : BR < w7.heap.size := (Array.getElem?_eq_some_iff.1 RQ7.out).1
         have HSD := Lib.hid (fun q (hq : (Value.slice (some ⟨bd, 0, none⟩) D.length cap5).ownBlock = some q) => (HO2.out.lt q hq).1)
         go_wp2_with (first | (at_mapUpdate; refine wp_put keyInt Try.underlying63 rfl _ _ _ rfl (HM7.out) r.deed (.bool true) rfl rfl rfl ?_; intro wq hm' hg'; have HMQ := Lib.hid hm'; have HGQ := Lib.hid hg'; clear hm' hg'))
         obtain ⟨ks3, hk3, hmem⟩ := mput_set ks2 r.deed
         have hm' := HMQ.out
         rw [hk3] at hm'
         have HG2 := Lib.hid ((HB2.out.trans G7.out).grown HGQ.out (fun q hq => by have := Option.some.inj hq; omega))
         have HR3' := Lib.hid (row_by (row_grow HR2.out G7.out) HGQ.out (by intro e; have := Option.some.inj e; omega))
         have HRQ' := Lib.hid (row_by RQ7.out HGQ.out (by intro e; have := Option.some.inj e; have := HBR.out; omega))
         have HO3' := Lib.hid ((HO2.out.grow G7.out).kept HGQ.out (own_apart HO2.out (by have := HS5.out; omega)))
         have HM3' := Lib.hid hm'
         clear hm' s0 s1 zR
         try go_wp2
         go_roundw
         case rel => exact ⟨j + 1, ks3, by omega, by go_num, HG2.out, HG2.out.sub, HR3'.out, HM3'.out, HO3'.out, HRQ'.out, fun y => by rw [hmem, HK2.out y, HDX.out]; constructor; (rintro ((a | ⟨a, b⟩) | a); exact .inl a; exact .inr ⟨a, .inl b⟩; exact .inr ⟨a.symm, .inr ⟨HPL.out, HIN.out⟩⟩); (rintro (a | ⟨a, b⟩); exact .inl (.inl a); exact .inr a.symm)⟩
         case measure => simp [intOf]; omega
      ·have HK2 := Lib.hid hks2
       have HM2 := Lib.hid hmap2
       have HR2 := Lib.hid hrow2
       have HB2 := Lib.hid hb2
       have HO2 := Lib.hid hod2
       clear hks2 hmap2 hrow2 hb2 hs2 hod2 hrq2
       have hjE : j = x.houses.length := by omega
       subst hjE
       go_wp2
       go_roundw
       case rel => exact ⟨k3 + 1, ks2, by omega, by go_num, HB2.out, HR2.out, HM2.out, HO2.out, fun y => by rw [HK2.out, HDN.out y, or_assoc]⟩
       case measure => simp [intOf]; omega
    ·have HK3 := Lib.hid hks3
     have HM3 := Lib.hid hmap3
     have HB3 := Lib.hid hb3
     rw [List.take_of_length_le (by omega)] at HK3
     clear hks3 hmap3 hrow3 hb3 hod3
     have HPE : Hid (opensTo (fun y => decide (y ∈ ks3)) 1344 = opensE x) := Lib.hid (by
      unfold opensTo opensE
      congr 1
      funext y
      rw [Bool.eq_iff_iff, HOI.out y, decide_eq_true_iff, HK3.out y])
     go_wp2
     go_loopw [12, 70] (fun s12 i wr => ∃ j : Nat, j ≤ 1344 ∧ i = .int .i64 j ∧ Grow w wr ∧ MapIs encInt wr (w.heap.size + 1) (setKv ks3) ∧ OwnC Ty.int (fun _ => none) wr (w.heap.size + 2) 3 s12 (opensTo (fun y => decide (y ∈ ks3)) j)) (fun _ i _ => 1344 - (intOf i).toNat)
     case atStart => exact ⟨0, by omega, rfl, HB3.out, HM3.out, OwnC.nil _ _ _ _ _⟩
     case round =>
      obtain ⟨j, hj', rfl, hb9, hm9, how9⟩ := hrel
      obtain ⟨a9, c9, rfl⟩ := how9.form
      have HNX := Lib.hid (opensTo_next (fun y => decide (y ∈ ks3)) j)
      have HLN := Lib.hid (opensTo_len (fun y => decide (y ∈ ks3)) j)
      have HM := Lib.hid hm9
      have HO := Lib.hid how9
      have HB := Lib.hid hb9
      have HSZ : Hid (w.heap.size + 2 ≤ wr.heap.size) := Lib.hid (by have := hm9.lt; omega)
      clear hb9 hm9 how9
      by_cases hj : j < 1344
      ·have hji : (j : Int) < 1344 := by omega
       generalize opensTo (fun y => decide (y ∈ ks3)) j = ls at *
       by_cases hin : (j : Int) ∈ ks3
       ·have HG := Lib.hid (mget_in hin)
        rw [if_pos (decide_eq_true hin)] at HNX
        clear hin
        go_wp2_with (first | (at_lookup; refine wp_lookup keyInt Try.underlying63 hzb rfl _ _ rfl HM.out (j : Int) rfl rfl ?_; rw [HG.out]) | (at_builtin; refine wpList_appc (c := fun _ => none) (base := w.heap.size + 2) (l := ls) (m := [(j : Int)]) ei_int rfl one_Tint (by decide) rfl (.tmp 76) (.tmp 78) rfl rfl (HO.out.grow ((Grow.refl _).alloc _)) rfl (Src.of_new (T := Ty.int) (x := (j : Int)) (cs := #[.int .i64 (j : Int)]) ⟨rfl, i64_of (by omega) (by omega)⟩ _ _ ?d1) ?d2 ?d3 ?_))
        case d1 => first | rfl | simp
        case d2 => have := HLN.out; simp; omega
        case d3 => have := HSZ.out; simp; omega
        intro a8 c8 w9 ho9 hg9 hb9
        have HLT := HO.out.lt
        have HG9 : Hid (Grow w w9) := Lib.hid ((HB.out.alloc _).grown hg9 (fun q hq => by have := (HLT q hq).1; omega))
        have HM9 := Lib.hid ((HM.out.grown (grownBy_of_grow ((Grow.refl wr).alloc (.cells #[.int .i64 (j : Int)] 3)) none) (by simp)).grown hg9 (by intro e; have := (HLT _ e).1; omega))
        have HO9 := Lib.hid ho9
        clear ho9 hg9 hb9 HLT
        go_wp2
        go_roundw
        case rel => exact ⟨j + 1, by omega, by go_num, HG9.out, HM9.out, by rw [HNX.out]; exact HO9.out⟩
        case measure => simp [intOf]; omega
       ·have HG := Lib.hid (mget_out hin)
        rw [if_neg (by simpa using hin)] at HNX
        clear hin
        go_wp2_with (first | (at_lookup; refine wp_lookup keyInt Try.underlying63 hzb rfl _ _ rfl HM.out (j : Int) rfl rfl ?_; rw [HG.out]))
        go_roundw
        case rel => exact ⟨j + 1, by omega, by go_num, HB.out, HM.out, by rw [HNX.out]; exact HO.out⟩
        case measure => simp [intOf]; omega
      ·have hjE : j = 1344 := by omega
       subst hjE
       rw [HPE.out] at HO ⊢
       obtain ⟨ls, hls⟩ : ∃ y, y = opensE x := ⟨_, rfl⟩
       rw [← hls] at HO ⊢
       have HLS := Lib.hid hls
       clear hls
       go_wp2
       go_ret
       exact ⟨_, rfl, by rw [← HLS.out]; exact HO.out.base (Nat.le_add_right _ 2), HB.out⟩
end Go.Proofs.Ytgbhpghgohggcaa
namespace Go.Proofs.Ytgbhpghgohggcaa
open Go.RowKit Go.Shelf Go.Sort
theorem own_sort' {w : World} {base : Nat} {v : Value} {l : List Int} (h : w.ownsRow base 3 1 v l.length (l.flatMap intCell)) (hs : l.length < 4611686018427387904) :
  Calls Try.prog 139 #[v] w fun e w' => e = .returned (.tuple #[]) ∧ w'.ownsRow base 3 1 v (l.mergeSort fun x y => decide (x ≤ y)).length ((l.mergeSort fun x y => decide (x ≤ y)).flatMap intCell) ∧ w.grownBy w' v.ownBlock := by
 by_cases hne : l = []
 ·subst hne
  obtain ⟨hl, ⟨rfl, -⟩ | ⟨g, cap, cur, rfl, hg, hrow, hnc, hcm, hcs, htake⟩⟩ := id h
  ·exact (Any.slices_Sort_int_none Try.lays189 none 0 w).mono fun e w' ⟨he, hw⟩ => ⟨he, by rw [hw, List.mergeSort_nil]; exact h, by rw [hw]; exact grownBy_of_grow (Grow.refl w) _⟩
  ·exact (Any.slices_Sort_int_none Try.lays189 (some ⟨g, 0, none⟩) cap w).mono fun e w' ⟨he, hw⟩ => ⟨he, by rw [hw, List.mergeSort_nil]; exact h, by rw [hw]; exact grownBy_of_grow (Grow.refl w) _⟩
 ·obtain ⟨g, hv, -, hc⟩ := own_sort h hne hs
  rw [hv]
  exact hc
theorem compact_len (l : List Int) : (Lib.compact l).length ≤ l.length := by
 have : ∀ (d : Array Int) (m : Nat), (Lib.compactUpTo d m).length ≤ m := by
  intro d m
  induction m with
  | zero => simp [Lib.compactUpTo]
  | succ m ih =>
   rw [Lib.compactUpTo_succ]
   split
   ·rw [List.length_append]; simp; omega
   ·rw [List.append_nil]; omega
 exact this l.toArray l.length
theorem own_compact {w : World} {base : Nat} {v : Value} {l : List Int} (h : w.ownsRow base 3 1 v l.length (l.flatMap intCell)) (hs : l.length < 4611686018427387904) :
  Calls Try.prog 140 #[v] w fun e w' => ∃ v', e = .returned v' ∧ w'.ownsRow base 3 1 v' (Lib.compact l).length ((Lib.compact l).flatMap intCell) ∧ w.grownBy w' v.ownBlock := by
 obtain ⟨hl, ⟨rfl, hn⟩ | ⟨g, cap, cur, rfl, hg, hrow, hnc, hcm, hcs, htake⟩⟩ := id h
 ·have : l = [] := List.eq_nil_of_length_eq_zero hn
  subst this
  exact (Try.slices_Compact_int_empty none 0 w).mono fun e w' ⟨he, hw⟩ => ⟨_, he, by rw [hw]; exact h, by rw [hw]; exact grownBy_of_grow (Grow.refl w) _⟩
 ·have ht : cur.toList.take l.length = l.map (Value.int .i64) := by rw [← flat_ints, ← htake, Nat.mul_one]
  have hcl := compact_len l
  have hgr : ∀ W : World, Go.Sort.grow W #[] = W := fun W => by cases W; simp [Go.Sort.grow]
  refine (Try.slices_Compact_int g 0 cap l w (holds_of_blockI hrow ht) (by omega) hnc).mono fun e w' ⟨he, q, hw⟩ => ⟨_, he, ?_, ?_⟩
  ·have e9 : (Lib.compact l ++ List.replicate (l.length - (Lib.compact l).length) 0).length = l.length := by simp; omega
   have h9 := ownsRow_sortedI (n := q) (os := #[]) (ss := l) e9 hg hrow hnc hcm hcs
   have h8 := owns_less (m := (Lib.compact l).length) h9 hcl
   rw [hw, flat_ints]
   rw [Nat.mul_one, List.map_append, List.take_left' (by simp)] at h8
   rw [hgr] at h8
   exact h8
  ·rw [hw]
   have h7 := grownBy_sortedI (w := w) (g := g) (n := q) (os := #[]) (Lib.compact l ++ List.replicate (l.length - (Lib.compact l).length) 0).toArray
   rw [hgr] at h7
   exact h7
end Go.Proofs.Ytgbhpghgohggcaa
namespace Go.Proofs.Ytgbhpghgohggcaa
open Go.RowKit
def LogP (l : List Rc) : Prop := ∀ r ∈ l, r.kind = 5 ∨ r.parts = []
theorem LogP.app {l t : List Rc} (h : LogP l) (k : LogP t) : LogP (l ++ t) := fun r hr => (List.mem_append.1 hr).elim (h r) (k r)
theorem logP_hearO (o : Opn) (m : Ms) : LogP (hearO o m).2.1 := by
 intro r hr
 unfold hearO at hr
 split at hr
 ·split at hr
  ·simp only [List.mem_singleton] at hr; rw [hr]; exact .inl rfl
  ·simp at hr
 ·split at hr
  ·simp at hr
  ·split at hr
   ·split at hr
    ·simp only [List.mem_singleton] at hr; rw [hr]; exact .inr rfl
    ·simp at hr
   ·split at hr <;> simp at hr
theorem logP_hearL {m : Ms} : ∀ {l : List Opn} {x : List Opn × List Rc × List Ms}, hearL m l = some x → LogP x.2.1
 | [], x, h => by simp [hearL] at h
 | o :: l, x, h => by
  rw [hearL] at h
  split at h
  ·rw [← Option.some.inj h]; exact logP_hearO o m
  ·cases e : hearL m l with
   | none => rw [e] at h; cases h
   | some y =>
    rw [e] at h
    rw [← Option.some.inj h]
    have h9 := logP_hearL e
    exact h9
theorem logP_hHear {h : Hd} (m : Ms) (hk : LogP h.log) : LogP (hHearH h m).log := by
 unfold hHearH
 split
 ·exact hk
 ·rename_i x e
  exact hk.app (logP_hearL e)
theorem logP_fall {h : Hd} (hk : LogP h.log) : LogP (fallH h).log := by
 unfold fallH
 split
 ·exact hk
 ·rw [headR_log]
  exact hk.app fun r hr => by simp only [List.mem_singleton] at hr; rw [hr]; exact .inr rfl
theorem logP_come {w : AW} (m : Ms) (h : LogP w.head.log) : LogP (comeA w m).head.log := by
 unfold comeA
 split
 ·exact h
 ·split
  ·exact h
  ·exact logP_hHear m h
theorem logP_step {w : AW} (h : LogP w.head.log) (s : St) : LogP (doA w s).head.log := by
 unfold doA
 split
 ·split
  ·show LogP (beginH w.head s.parts).log
   rw [begin_log]; exact h
  ·exact h
 ·split
  ·split
   ·exact logP_come _ h
   ·exact h
  ·split
   ·split <;> exact h
   ·split
    ·split <;> exact h
    ·split
     ·split
      ·exact logP_fall h
      ·exact h
     ·split
      ·split
       ·unfold tickA
        split
        ·exact h
        ·split <;> exact h
       ·exact h
      ·split <;> exact h
theorem logP_play : ∀ (l : List St) {w : AW}, LogP w.head.log → LogP (playA w l).head.log
 | [], _, h => h
 | s :: l, _, h => logP_play l (logP_step h s)
theorem logP_new (n : Nat) : LogP (newA n).head.log := by
 show LogP (headR _).log
 rw [headR_log]
 intro r hr
 simp only [List.mem_singleton] at hr
 rw [hr]; exact .inr rfl
theorem logP_len {n : Nat} {G : Reg} {x : AW} (i : WI n G x) (h : LogP x.head.log) : ∀ r ∈ x.head.log, r.parts.length ≤ 4 := fun r hr => by
 rcases h r hr with h5 | h0
 ·exact (wrong_ok (i.core.reg.ok _ (i.core.dec.reg ⟨r.deed, r.parts⟩ (List.mem_map.2 ⟨r, List.mem_filter.2 ⟨hr, by simp [h5]⟩, rfl⟩))).2).2.1
 ·rw [h0]; simp
theorem OwnC.toInts {c : CM} {w : World} {base e : Nat} {v : Value} {l : List Int} (h : OwnC Ty.int c w base e v l) : w.ownsRow base e 1 v l.length (l.flatMap intCell) := by
 obtain ⟨css, h1, h2, h3⟩ := h
 have : css = l.map intCell := by
  apply List.ext_getElem?
  intro i
  rw [List.getElem?_map]
  by_cases hi : i < l.length
  ·have a := List.getElem?_eq_getElem (l := css) (i := i) (by omega)
   have b := List.getElem?_eq_getElem (l := l) (i := i) hi
   rw [a, b]
   have := (h3 i _ _ a b).1
   simp [this, intCell]
  ·rw [List.getElem?_eq_none (by omega), List.getElem?_eq_none (by omega)]; rfl
 rw [this, ← List.flatMap_def] at h1
 exact h1
theorem keep_rg {wB w5 wr w' : World} {row : Option Nat} (h : Sub (ov (fun _ => none) wB w5) wr.cell?) (hg : wr.grownBy w' row) (hr : ∀ q, row = some q → q < wB.heap.size ∨ w5.heap.size ≤ q) : Sub (ov (fun _ => none) wB w5) w'.cell? := fun a v e => by
 have e2 := h a v e
 have hlt := World.block_lt_of_cell? wr a e2
 unfold ov at e
 split at e
 ·cases e
 ·have h5 := World.block_lt_of_cell? w5 a e
  rw [World.cell?_of_block (hg.block a.block hlt (fun e9 => by have := hr _ e9.symm; omega))]
  exact e2
theorem flat_short' {α β : Type} {f : α → List β} {b : Nat} : ∀ (l : List α), (∀ x ∈ l, (f x).length ≤ b) → (l.flatMap f).length ≤ l.length * b
 | [], _ => by simp
 | x :: l, h => by
  rw [List.flatMap_cons, List.length_append, List.length_cons, Nat.add_mul, Nat.one_mul]
  have := h x List.mem_cons_self
  have := flat_short' l fun y hy => h y (List.mem_cons_of_mem _ hy)
  omega
set_option maxRecDepth 100000 in
set_option maxHeartbeats 4000000 in
theorem look_open {v : Value} {x : AW} {n : Nat} {G : Reg} (w : World) (hv : Of Ty.wd w.cell? v x) (hi : WI n G x) (hg : x.head.log.length ≤ 100000) (hlp : LogP x.head.log) :
  Calls Try.prog 76 #[v] w fun e w' => ∃ v', e = .returned v' ∧ OwnC Ty.int (fun _ => none) w' w.heap.size 3 v' (opensE x) ∧ Grow w w' := by
 obtain ⟨al, cl, ao, co, ah, ch, an, cn, rfl⟩ := hv.wd_form
 obtain ⟨q1, q2, -⟩ := hv.wd_parts
 have HLG := Lib.hid (Of.hd_log q1).1
 obtain ⟨ah', ch', he9, h1, h2, -, hel⟩ := q2
 simp only [Value.slice.injEq, true_and] at he9
 obtain ⟨rfl, rfl⟩ := he9
 unfold maxLen at h2
 have HEL := Lib.hid hel
 have HWI := Lib.hid hi
 have HGG := Lib.hid hg
 have HLL := Lib.hid (logP_len hi hlp)
 have hl : x.houses.length ≤ 3 := by rw [hi.core.len]; exact hi.core.n3.2
 have HRL : Hid (∀ h ∈ x.houses, h.ready.length ≤ 4) := Lib.hid (fun h hh => by obtain ⟨j, hj⟩ := List.mem_iff_getElem?.1 hh; exact ready_len hi.core hj)
 have HRB : Hid (∀ k, (openReady (x.houses.take k)).length ≤ 12) := Lib.hid (fun k => by
  have h9 := flat_short' (f := fun h : Hs => h.ready.map (·.deed)) (b := 4) (x.houses.take k) (fun h hh => by rw [List.length_map]; exact HRL.out h (List.mem_of_mem_take hh))
  rw [List.length_take] at h9
  unfold openReady
  omega)
 have HDP : Hid (∀ r ∈ decidedR x.head.log, r.parts.length ≤ 4 ∧ r.parts ≠ [] ∧ (∀ p ∈ r.parts, 0 ≤ p.h ∧ p.h < 3) ∧ ∀ q ∈ housesE r.parts, 0 ≤ q ∧ q < (x.houses.length : Int)) := Lib.hid (fun r hr => by
  have hw : wrongE r.parts n = 0 := (hi.core.reg.ok _ (hi.core.dec.reg r hr)).2
  have h9 := wrong_ok hw
  have hn := hi.core.n3
  refine ⟨h9.2.1, fun e => by rw [e] at hw; simp [wrongE] at hw, fun p hp => by have := h9.2.2.1 p hp; omega, fun q hq => ?_⟩
  have hq2 := houses_lt hw hq
  have hq3 := houses_mem.1 hq
  rw [hi.core.len]
  omega)
 clear hv q1 hel hg hi hlp
 obtain ⟨wa, hwa⟩ : ∃ y : World, y = w.alloc (.cells #[.slice al x.head.log.length cl, .int .i64 x.head.boot, .int .i64 x.head.next, .slice ao x.head.opn.length co, .slice ah x.houses.length ch, .slice an x.net.length cn] 93) := ⟨_, rfl⟩
 have R1 : Hid (wa.heap[w.heap.size]? = some (.cells #[.slice al x.head.log.length cl, .int .i64 x.head.boot, .int .i64 x.head.next, .slice ao x.head.opn.length co, .slice ah x.houses.length ch, .slice an x.net.length cn] 93 (0, 0))) := Lib.hid (by rw [hwa]; exact row_new _ _)
 have G1 : Hid (Grow w wa) := Lib.hid (by rw [hwa]; exact (Grow.refl w).alloc _)
 have HZ : Hid (wa.heap.size = w.heap.size + 1) := Lib.hid (by rw [hwa]; simp)
 have HWA := Lib.hid hwa
 clear hwa
 go_enter Try.func76, Try.ntmps76
 go_upto_region 1 with fail
 rw [← HWA.out]
 clear HWA
 obtain ⟨c0, c1, c2, c3, c4, c5⟩ := cells6 R1.out
 have z1 : w.heap.size < wa.heap.size := (Array.getElem?_eq_some_iff.1 R1.out).1
 go_wp2
 clear c0 c1 c2 c3 c4 c5 z1
 go_loopw [3, 15] (fun s3 i wr => ∃ k : Nat, k ≤ x.houses.length ∧ i = .int .i64 k ∧ Grow w wr ∧ wr.heap[w.heap.size]? = some (.cells #[.slice al x.head.log.length cl, .int .i64 x.head.boot, .int .i64 x.head.next, .slice ao x.head.opn.length co, .slice ah x.houses.length ch, .slice an x.net.length cn] 93 (0, 0)) ∧ OwnC Ty.int (fun _ => none) wr (w.heap.size + 1) 3 s3 (openReady (x.houses.take k)) ∧ w.heap.size + 1 ≤ wr.heap.size) (fun _ i _ => x.houses.length - (intOf i).toNat)
 case atStart => exact ⟨0, by omega, rfl, G1.out, R1.out, OwnC.nil _ _ _ _ _, by have := HZ.out; omega⟩
 case round =>
  obtain ⟨k, hk', rfl, hb, hrow, how, hsz⟩ := hrel
  by_cases hlt : k < x.houses.length
  ·obtain ⟨bh, oh, vl, vr, vd, rfl, e0, e1, e2, e3, e4, e5, e6, hH1, -, -, -, -, hH2, hH3⟩ := Hss.at_ HEL.out k hlt
   obtain ⟨il, jl, rfl, -⟩ := id hH1
   obtain ⟨id9, jd, rfl, -⟩ := id hH3
   obtain ⟨ir, jr, rfl, hr1, hr2, -, hrel9⟩ := hH2
   unfold maxLen at hr2
   have HNX : Hid (openReady (x.houses.take (k + 1)) = openReady (x.houses.take k) ++ x.houses[k].ready.map (·.deed)) := Lib.hid (flat_next _ hlt)
   have HLK := Lib.hid (HRB.out k)
   have HRK := Lib.hid (HRL.out _ (List.getElem_mem hlt))
   have HRE := Lib.hid hrel9
   have HO := Lib.hid how
   have HROW := Lib.hid hrow
   have HB := Lib.hid hb
   have HSZ := Lib.hid hsz
   obtain ⟨a3, p3, rfl⟩ := how.form
   replace e0 := hb.sub _ _ e0
   replace e1 := hb.sub _ _ e1
   replace e2 := hb.sub _ _ e2
   replace e3 := hb.sub _ _ e3
   replace e4 := hb.sub _ _ e4
   replace e5 := hb.sub _ _ e5
   replace e6 := hb.sub _ _ e6
   clear hH1 hH3 hrel9 how hrow hb hsz
   generalize x.houses[k] = h at *
   generalize openReady (x.houses.take k) = ls at *
   go_upto_region 5 with fail
   obtain ⟨wo, hwo⟩ : ∃ y : World, y = wr.alloc (.cells #[.slice il h.log.length jl, .int .i64 h.sums.a, .int .i64 h.sums.b, .int .i64 h.sums.c, .int .i64 h.sums.d, .slice ir h.ready.length jr, .slice id9 h.done.length jd] 29) := ⟨_, rfl⟩
   obtain ⟨BO, hBO⟩ : ∃ y, y = wr.heap.size := ⟨_, rfl⟩
   have GO : Hid (Grow wr wo) := Lib.hid (by rw [hwo]; exact (Grow.refl _).alloc _)
   have RO : Hid (wo.heap[BO]? = some (.cells #[.slice il h.log.length jl, .int .i64 h.sums.a, .int .i64 h.sums.b, .int .i64 h.sums.c, .int .i64 h.sums.d, .slice ir h.ready.length jr, .slice id9 h.done.length jd] 29 (0, 0))) := Lib.hid (by rw [hwo, hBO]; exact row_new _ _)
   rw [← hwo, ← hBO]
   clear hwo hBO e0 e1 e2 e3 e4 e5 e6
   obtain ⟨f0, f1, f2, f3, f4, f5, f6⟩ := cells7 RO.out
   have zO : BO < wo.heap.size := (Array.getElem?_eq_some_iff.1 RO.out).1
   go_wp2
   clear f0 f1 f2 f3 f4 f5 f6 zO
   obtain ⟨wx, hwx⟩ : ∃ y : World, y = wr := ⟨_, rfl⟩
   rw [← hwx] at GO HROW HB HO HSZ
   clear hwx
   go_loopw [3, 22] (fun s3 i2 wr => ∃ j : Nat, j ≤ h.ready.length ∧ i2 = .int .i64 j ∧ Grow w wr ∧ wr.heap[w.heap.size]? = some (.cells #[.slice al x.head.log.length cl, .int .i64 x.head.boot, .int .i64 x.head.next, .slice ao x.head.opn.length co, .slice (some ⟨bh, oh, none⟩) x.houses.length ch, .slice an x.net.length cn] 93 (0, 0)) ∧ OwnC Ty.int (fun _ => none) wr (w.heap.size + 1) 3 s3 (ls ++ (h.ready.take j).map (·.deed)) ∧ w.heap.size + 1 ≤ wr.heap.size) (fun _ i2 _ => h.ready.length - (intOf i2).toNat)
   case atStart => exact ⟨0, by omega, rfl, HB.out.trans GO.out, row_grow HROW.out GO.out, by simpa using HO.out.grow GO.out, Nat.le_trans HSZ.out GO.out.size⟩
   case round =>
    obtain ⟨j, hj', rfl, hb2, hrow2, how2, hsz2⟩ := hrel
    obtain ⟨a4, p4, rfl⟩ := how2.form
    have HR2 := Lib.hid hrow2
    have HB2 := Lib.hid hb2
    have HO2 := Lib.hid how2
    have HS2 := Lib.hid hsz2
    clear hrow2 how2 hsz2
    by_cases hjl : j < h.ready.length
    ·obtain ⟨br, orr, vp, rfl, t0, t1, ti, hP⟩ := Rds.at_ HRE.out j hjl
     obtain ⟨ap, cp, rfl, -⟩ := id hP
     have HN2 := Lib.hid (map_next (fun r : Rd => r.deed) hjl)
     have HL2 : Hid ((ls ++ (h.ready.take j).map (·.deed)).length ≤ 16) := Lib.hid (by rw [List.length_append, List.length_map, List.length_take]; have := HLK.out; have := HRK.out; omega)
     have HTI := Lib.hid ti
     replace t0 := hb2.sub _ _ t0
     replace t1 := hb2.sub _ _ t1
     clear hP hb2 ti
     generalize h.ready[j] = r at *
     generalize (h.ready.take j).map (·.deed) = ms at *
     generalize hlm : ls ++ ms = lm at *
     have HLM := Lib.hid hlm
     clear hlm
     go_wp2_with (first | (at_builtin; refine wpList_appc (c := fun _ => none) (base := w.heap.size + 1) (l := lm) (m := [r.deed]) ei_int rfl one_Tint (by decide) rfl (.tmp 26) (.tmp 29) rfl rfl (HO2.out.grow (((Grow.refl _).alloc _).alloc _)) rfl (Src.of_new (T := Ty.int) (x := r.deed) (cs := #[.int .i64 r.deed]) ⟨rfl, HTI.out⟩ _ _ ?d1) ?d2 ?d3 ?_))
     case d1 => first | rfl | simp
     case d2 => have := HL2.out; simp; omega
     case d3 => have := HS2.out; simp; omega
     intro a9 c9 w9 ho9 hg9 hb9
     have HLT := HO2.out.lt
     have HG9 : Hid (Grow w w9) := Lib.hid (((HB2.out.alloc _).alloc _).grown hg9 (fun q hq => by have := (HLT q hq).1; omega))
     have HR9 := Lib.hid (row_by (row_grow HR2.out (((Grow.refl wr).alloc (.cells #[.int .i64 r.deed, .slice ap r.parts.length cp] 45)).alloc (.cells #[.int .i64 r.deed] 3))) hg9 (by intro e; have := (HLT _ e.symm).1; omega))
     have HO9 := Lib.hid ho9
     have HS9 : Hid (w.heap.size + 1 ≤ w9.heap.size) := Lib.hid (by have h8 := hg9.size; simp at h8; have := HS2.out; omega)
     clear ho9 hg9 hb9 HLT
     go_wp2
     go_roundw
     case rel => exact ⟨j + 1, by omega, by go_num, HG9.out, HR9.out, by rw [HN2.out, ← List.append_assoc, HLM.out]; exact HO9.out, HS9.out⟩
     case measure => simp [intOf]; omega
    ·have hTL : h.ready.take j = h.ready := List.take_of_length_le (by omega)
     rw [hTL] at HO2 ⊢
     clear hTL hb2
     generalize hlm : ls ++ h.ready.map (·.deed) = lm at *
     have HLM := Lib.hid hlm
     clear hlm
     go_wp2
     go_roundw
     case rel => exact ⟨k + 1, by omega, by go_num, HB2.out, HR2.out, by rw [HNX.out]; exact HO2.out, HS2.out⟩
     case measure => simp [intOf]; omega
  ·have hTL : x.houses.take k = x.houses := List.take_of_length_le (by omega)
   obtain ⟨a3, p3, rfl⟩ := how.form
   have HO := Lib.hid how
   have HROW := Lib.hid hrow
   have HB := Lib.hid hb
   have HSZ := Lib.hid hsz
   have HLK : Hid ((openReady x.houses).length ≤ 12) := Lib.hid (by have := HRB.out x.houses.length; rw [List.take_length] at this; exact this)
   have HOA := Lib.hid (open_all HWI.out)
   clear how hrow hb hsz
   rw [hTL] at HO ⊢
   clear hTL
   generalize openReady x.houses = ls at *
   obtain ⟨D, hD⟩ : ∃ y, y = decidedR x.head.log := ⟨_, rfl⟩
   rw [← hD] at HOA HDP
   have HDD := Lib.hid hD
   have hdl : D.length ≤ 100000 := by rw [hD]; unfold decidedR; rw [List.length_map]; exact Nat.le_trans (List.length_filter_le _ _) HGG.out
   clear hD
   obtain ⟨c0, c1, c2, c3, c4, c5⟩ := cells6 HROW.out
   have z1 : w.heap.size < wr.heap.size := (Array.getElem?_eq_some_iff.1 HROW.out).1
   go_wp2_with fail
   refine (wlog_decided (l := x.head.log) _ (HLG.out.mono HB.out.sub) (by have := HGG.out; omega) (fun r hr => by have := HLL.out r hr; omega)).mono ?_
   rintro e w5 ⟨v5, rfl, ho5, hb5⟩
   rw [← HDD.out] at ho5
   have hsl5 := ho5.ovn (by decide)
   obtain ⟨a5, p5, rfl, hd1, hd2, -, held⟩ := hsl5
   have HLD := Lib.hid held
   have HB5 := Lib.hid (HB.out.trans hb5)
   have HR5 := Lib.hid (row_grow HROW.out hb5)
   have HO5 := Lib.hid (HO.out.grow hb5)
   have HX5 := Lib.hid (ov_none_sub wr w5)
   have HQ5 := Lib.hid HO.out.lt
   have HS5 := Lib.hid hb5.size
   clear ho5 hb5 held c0 c1 c2 c3 c4 c5 z1
   obtain ⟨wB, hwB⟩ : ∃ y : World, y = wr := ⟨_, rfl⟩
   rw [← hwB] at HLD HX5 HQ5 HS5 HSZ
   clear hwB
   go_wp2
   go_loopw [3, 38] (fun s3 i wr => ∃ k : Nat, k ≤ D.length ∧ i = .int .i64 k ∧ Grow w wr ∧ wr.heap[w.heap.size]? = some (.cells #[.slice al x.head.log.length cl, .int .i64 x.head.boot, .int .i64 x.head.next, .slice ao x.head.opn.length co, .slice ah x.houses.length ch, .slice an x.net.length cn] 93 (0, 0)) ∧ OwnC Ty.int (fun _ => none) wr (w.heap.size + 1) 3 s3 (ls ++ openDec x.houses (D.take k)) ∧ Sub (ov (fun _ => none) wB w5) wr.cell? ∧ (∀ q, s3.ownBlock = some q → q < wB.heap.size ∨ w5.heap.size ≤ q) ∧ w5.heap.size ≤ wr.heap.size) (fun _ i _ => D.length - (intOf i).toNat)
   case atStart => exact ⟨0, by omega, rfl, HB5.out, HR5.out, by simpa [openDec] using HO5.out, HX5.out, fun q hq => .inl (HQ5.out q hq).2, Nat.le_refl _⟩
   case round =>
    obtain ⟨k3, hk3, rfl, hb3, hrow3, how3, hx3, hq3, hs3⟩ := hrel
    obtain ⟨a6, p6, rfl⟩ := how3.form
    have HO3 := Lib.hid how3
    have HR3 := Lib.hid hrow3
    have HB3 := Lib.hid hb3
    have HX3 := Lib.hid hx3
    have HQ3 := Lib.hid hq3
    have HS3 := Lib.hid hs3
    clear how3 hrow3 hb3 hx3 hq3 hs3
    by_cases hlt3 : k3 < D.length
    ·have HRP := Lib.hid (HDP.out _ (List.getElem_mem hlt3))
     have HDX : Hid (openDec x.houses (D.take (k3 + 1)) = openDec x.houses (D.take k3) ++ openAt x.houses D[k3]) := Lib.hid (flat_next _ hlt3)
     have HLA : Hid ((ls ++ openDec x.houses (D.take k3)).length ≤ 300012) := Lib.hid (by
      rw [List.length_append]
      have h9 := flat_short (f := openAt x.houses) (b := 3) (fun r => by unfold openAt; rw [List.length_map]; exact Nat.le_trans (List.length_filter_le _ _) (houses_short _)) (D.take k3)
      rw [List.length_take] at h9
      unfold openDec
      have := HLK.out
      omega)
     obtain ⟨bd, od, vp, rfl, t0, t1, ti, hP⟩ := Rds.at_ HLD.out k3 hlt3
     obtain ⟨ap, cp, rfl, -⟩ := id hP
     have HTI := Lib.hid ti
     have HPR := Lib.hid hP
     replace t0 := HX3.out _ _ t0
     replace t1 := HX3.out _ _ t1
     clear hP ti
     generalize D[k3] = r at *
     generalize hlm : ls ++ openDec x.houses (D.take k3) = lm at *
     have HLM := Lib.hid hlm
     clear hlm
     go_upto_region 14 with fail
     obtain ⟨wq, hwq⟩ : ∃ y : World, y = wr.alloc (.cells #[.int .i64 r.deed, .slice ap r.parts.length cp] 45) := ⟨_, rfl⟩
     obtain ⟨BR, hBR⟩ : ∃ y, y = wr.heap.size := ⟨_, rfl⟩
     have GQ : Hid (Grow wr wq) := Lib.hid (by rw [hwq]; exact (Grow.refl _).alloc _)
     have RQ : Hid (wq.heap[BR]? = some (.cells #[.int .i64 r.deed, .slice ap r.parts.length cp] 45 (0, 0))) := Lib.hid (by rw [hwq, hBR]; exact row_new _ _)
     have HBR : Hid (BR = wr.heap.size) := Lib.hid hBR
     have HQL : Hid (wq.heap.size = BR + 1) := Lib.hid (by rw [hwq, hBR]; simp)
     rw [← hwq, ← hBR]
     clear hwq hBR t0 t1
     obtain ⟨s0, s1⟩ := cells2 RQ.out
     have zR : BR < wq.heap.size := (Array.getElem?_eq_some_iff.1 RQ.out).1
     go_wp2_with fail
     refine (part_houses _ (HPR.out.mono (HX3.out.trans GQ.out.sub)) (by have := HRP.out.1; omega) HRP.out.2.1 HRP.out.2.2.1).mono ?_
     rintro e w6 ⟨v6, rfl, ho6, hb6⟩
     obtain ⟨a7, c7, rfl⟩ := owns_form ho6
     have hn6 := (OwnC.ints (c := fun _ => none) ho6 (houses_ok r.parts)).slc (d := ov (fun _ => none) wq w6) (by decide) (fun _ _ e9 => by cases e9) fun a ha => ov_new ha
     obtain ⟨a7', c7', he7, -, -, -, heln⟩ := hn6
     simp only [Value.slice.injEq, true_and] at he7
     obtain ⟨rfl, rfl⟩ := he7
     have HNS := Lib.hid heln
     have HRQ := Lib.hid HRP.out.2.2.2
     have HAT : Hid (openAt x.houses r = ((housesE r.parts).filter (fun n9 : Int => !decide (r.deed ∈ (x.houses.getD n9.toNat hs0).done))).map fun _ => r.deed) := Lib.hid rfl
     have hns := houses_short r.parts
     have HB6 := Lib.hid (HB3.out.trans (GQ.out.trans hb6))
     have HR6 := Lib.hid (row_grow HR3.out (GQ.out.trans hb6))
     have HO6 := Lib.hid (HO3.out.grow (GQ.out.trans hb6))
     have HX6 := Lib.hid (HX3.out.trans (GQ.out.trans hb6).sub)
     have HY6 := Lib.hid (ov_none_sub wq w6)
     have RQ6 := Lib.hid (row_grow RQ.out hb6)
     have HQ6 := Lib.hid (fun q (hq : (Value.slice a6 lm.length p6).ownBlock = some q) => And.intro (HQ3.out q hq) ((HO3.out.lt q hq).2))
     have HLW : Hid (BR < w6.heap.size) := Lib.hid (by have := hb6.size; have := HQL.out; omega)
     have HS6 : Hid (w5.heap.size ≤ w6.heap.size ∧ w5.heap.size ≤ BR) := Lib.hid (by have := HS3.out; have := HBR.out; have := hb6.size; have := HQL.out; omega)
     clear ho6 hb6 heln s0 s1 zR HX3 HR3 HB3 HO3
     generalize housesE r.parts = ns at *
     have HBQ := Lib.hid HBR.out
     clear HBR
     rw [← HBQ.out] at HQ6
     clear HBQ HS3 HQ3
     clear GQ
     go_wp2
     go_loopw [3, 46] (fun s3 i2 wr => ∃ j : Nat, j ≤ ns.length ∧ i2 = .int .i64 j ∧ Grow w wr ∧ wr.heap[w.heap.size]? = some (.cells #[.slice al x.head.log.length cl, .int .i64 x.head.boot, .int .i64 x.head.next, .slice ao x.head.opn.length co, .slice ah x.houses.length ch, .slice an x.net.length cn] 93 (0, 0)) ∧ OwnC Ty.int (fun _ => none) wr (w.heap.size + 1) 3 s3 (lm ++ ((ns.take j).filter (fun n9 : Int => !decide (r.deed ∈ (x.houses.getD n9.toNat hs0).done))).map fun _ => r.deed) ∧ Sub (ov (fun _ => none) wB w5) wr.cell? ∧ Sub (ov (fun _ => none) wq w6) wr.cell? ∧ wr.heap[BR]? = some (.cells #[.int .i64 r.deed, .slice ap r.parts.length cp] 45 (0, 0)) ∧ (∀ q, s3.ownBlock = some q → (q < wB.heap.size ∨ w5.heap.size ≤ q) ∧ (q < BR ∨ w6.heap.size ≤ q)) ∧ w6.heap.size ≤ wr.heap.size) (fun _ i2 _ => ns.length - (intOf i2).toNat)
     case atStart => exact ⟨0, by omega, rfl, HB6.out, HR6.out, by simpa using HO6.out, HX6.out, HY6.out, RQ6.out, fun q hq => ⟨(HQ6.out q hq).1, .inl (HQ6.out q hq).2⟩, Nat.le_refl _⟩
     case round =>
      obtain ⟨j, hj', rfl, hb7, hrow7, how7, hx7, hy7, hrq7, hq7, hs7⟩ := hrel
      obtain ⟨a8, p8, rfl⟩ := how7.form
      have HO7 := Lib.hid how7
      have HR7 := Lib.hid hrow7
      have HB7 := Lib.hid hb7
      have HX7 := Lib.hid hx7
      have HY7 := Lib.hid hy7
      have HW7 := Lib.hid hrq7
      have HQ7 := Lib.hid hq7
      have HS7 := Lib.hid hs7
      clear how7 hrow7 hb7 hx7 hy7 hrq7 hq7 hs7
      by_cases hjl : j < ns.length
      ·obtain ⟨hn0, hn1⟩ := HRQ.out _ (List.getElem_mem hjl)
       obtain ⟨m, hm⟩ : ∃ m : Nat, ns[j] = (m : Int) := ⟨ns[j].toNat, by omega⟩
       have hml : m < x.houses.length := by omega
       have HQM : Hid ((fun n9 : Int => !decide (r.deed ∈ (x.houses.getD n9.toNat hs0).done)) ns[j] = !decide (r.deed ∈ x.houses[m].done)) := Lib.hid (by
        show (!decide (r.deed ∈ (x.houses.getD (ns[j]).toNat hs0).done)) = _
        rw [hm, Int.toNat_natCast, List.getD_eq_getElem?_getD, List.getElem?_eq_getElem hml]
        rfl)
       have HFN : Hid (((ns.take (j + 1)).filter (fun n9 : Int => !decide (r.deed ∈ (x.houses.getD n9.toNat hs0).done))).map (fun _ => r.deed) = if (!decide (r.deed ∈ x.houses[m].done)) = true then ((ns.take j).filter (fun n9 : Int => !decide (r.deed ∈ (x.houses.getD n9.toNat hs0).done))).map (fun _ => r.deed) ++ [r.deed] else ((ns.take j).filter (fun n9 : Int => !decide (r.deed ∈ (x.houses.getD n9.toNat hs0).done))).map (fun _ => r.deed)) := Lib.hid (by
        have h9 := fmap_next (fun n9 : Int => !decide (r.deed ∈ (x.houses.getD n9.toNat hs0).done)) (fun _ => r.deed) hjl
        rw [← HQM.out]
        exact h9)
       obtain ⟨bx, ox, rfl, x0, hni⟩ := intAt HNS.out j hjl
       replace x0 := HY7.out _ _ x0
       rw [hm] at x0
       have HL8 : Hid ((lm ++ ((ns.take j).filter (fun n9 : Int => !decide (r.deed ∈ (x.houses.getD n9.toNat hs0).done))).map fun _ => r.deed).length ≤ 300015) := Lib.hid (by
        rw [List.length_append, List.length_map]
        have h9 := List.length_filter_le (fun n9 : Int => !decide (r.deed ∈ (x.houses.getD n9.toNat hs0).done)) (ns.take j)
        rw [List.length_take] at h9
        have := HLA.out
        omega)
       obtain ⟨bh, oh, vl, vr, vd, rfl, e0, e1, e2, e3, e4, e5, e6, hH1, -, -, -, -, hH2, hH3⟩ := Hss.at_ HEL.out m hml
       obtain ⟨id9, jd, rfl, -⟩ := id hH3
       have HDI := Lib.hid hH3
       have HE6 := Lib.hid e6
       have hm0 : (0 : Int) ≤ (m : Int) := by omega
       have hm1 : (m : Int) < (x.houses.length : Int) := by omega
       clear e0 e1 e2 e3 e4 e5 e6 hH1 hH2 hH3 hni hn0 hn1 hm
       generalize x.houses[m] = h at *
       generalize ns[j] = nj at *
       generalize ((ns.take j).filter (fun n9 : Int => !decide (r.deed ∈ (x.houses.getD n9.toNat hs0).done))).map (fun _ => r.deed) = ms at *
       generalize hlr : lm ++ ms = lr at *
       have HLR := Lib.hid hlr
       clear hlr
       go_upto_region 17 with fail
       clear x0
       have HS : Hid (∀ W, Grow wr W → W.cell? ⟨w.heap.size, 4, none⟩ = some (.slice (some ⟨bh, oh, none⟩) x.houses.length ch) ∧ W.cell? ⟨bh, oh + m * 7 + 6, none⟩ = some (.slice id9 h.done.length jd) ∧ W.cell? ⟨BR, 0, none⟩ = some (.int .i64 r.deed)) := fun W hW => by
        obtain ⟨-, -, -, -, j4, -⟩ := cells6 (row_grow HR7.out hW)
        obtain ⟨k0, -⟩ := cells2 (row_grow HW7.out hW)
        exact ⟨j4, (HB7.out.trans hW).sub _ _ HE6.out, k0⟩
       refine but_start (fun w' => w'.cell? ⟨w.heap.size, 4, none⟩ = some (.slice (some ⟨bh, oh, none⟩) x.houses.length ch) ∧ w'.cell? ⟨bh, oh + m * 7 + 6, none⟩ = some (.slice id9 h.done.length jd) ∧ w'.cell? ⟨BR, 0, none⟩ = some (.int .i64 r.deed)) 9 (by kernel_rfl) ?_
       obtain ⟨wd, hWd⟩ : ∃ x : World, x = wr.drew := ⟨_, rfl⟩
       rw [← hWd]
       have GD : Grow wr wd := by rw [hWd]; exact (Grow.refl _).drew
       have zD : wr.heap.size = wd.heap.size := by rw [hWd]; rfl
       have ZD := Lib.hid zD
       clear hWd zD
       refine bLm [0] 12 (by kernel_rfl) (fun _ _ _ _ _ h => h) (HS.out _ GD) ?_
       repeat (refine tNm (v := ?_) rfl (by rfl) ?_ ?_; rotate_left; (· (intro w' hSw; (try dsimp only at hSw); obtain ⟨hs0, hs1, hs2⟩ := hSw; go_simp <;> with_reducible rfl)); try simp only [Act.put, lzA, lzC, lzD, lzE, lzF])
       refine tEm ?_
       refine bLm [1, 2, 3, 4, 5, 6, 7] 12 (by kernel_rfl) (fun _ _ _ _ _ h => h) (HS.out _ GD) ?_
       repeat (refine tNm (v := ?_) rfl (by rfl) ?_ ?_; rotate_left; (· (intro w' hSw; (try dsimp only at hSw); obtain ⟨hs0, hs1, hs2⟩ := hSw; go_simp <;> with_reducible rfl)); try simp only [Act.put, lzA, lzB, lzC, lzD, lzE, lzF])
       refine tEm ?_
       refine bO 8 (by kernel_rfl) rfl ?_
       intro K HK
       try simp only [lzA, lzB, lzC]
       go_simp
       go_at_call 128
       refine (contains_int (n := r.deed) _ (HDI.out.mono (HB7.out.trans GD).sub)).mono ?_
       rintro e8 w8 ⟨rfl, hb8⟩
       have G8 := Lib.hid (Grow.trans GD hb8)
       clear hb8
       obtain ⟨tn, htn⟩ : ∃ b : Bool, b = decide (r.deed ∈ h.done) := ⟨_, rfl⟩
       rw [← htn]
       have HTN := Lib.hid htn
       clear htn
       refine HK.out _ _ ⟨fun _ => HS.out _ G8.out, ?_⟩
       clear HK K
       try simp only [Act.put, lzA, lzB, lzC, lzD, lzE, lzF]
       refine bO 9 (by kernel_rfl) rfl ?_
       intro K HK
       try simp only [lzA, lzB, lzC]
       go_simp
       refine HK.out _ _ ⟨fun h => absurd rfl h, ?_⟩
       clear HK K
       try simp only [Act.put, lzA, lzB, lzC, lzD, lzE, lzF]
       refine but_done (by kernel_rfl) ?_
       have HO8 := Lib.hid (HO7.out.grow G8.out)
       have HR8 := Lib.hid (row_grow HR7.out G8.out)
       have HB8 := Lib.hid (HB7.out.trans G8.out)
       have HX8 := Lib.hid (HX7.out.trans G8.out.sub)
       have HY8 := Lib.hid (HY7.out.trans G8.out.sub)
       have HW8 := Lib.hid (row_grow HW7.out G8.out)
       have HS8 := Lib.hid (Nat.le_trans HS7.out G8.out.size)
       cases tn with
       | true =>
        rw [← HTN.out, if_neg (by simp)] at HFN
        go_wp2
        go_roundw
        case rel => exact ⟨j + 1, by omega, by go_num, HB8.out, HR8.out, by rw [HFN.out, HLR.out]; exact HO8.out, HX8.out, HY8.out, HW8.out, HQ7.out, HS8.out⟩
        case measure => simp [intOf]; omega
       | false =>
        rw [← HTN.out, if_pos (by simp)] at HFN
        obtain ⟨s0, s1⟩ := cells2 HW8.out
        have zR : BR < w8.heap.size := (Array.getElem?_eq_some_iff.1 HW8.out).1
        go_wp2_with (first | (at_builtin; refine wpList_appc (c := fun _ => none) (base := w.heap.size + 1) (l := lr) (m := [r.deed]) ei_int rfl one_Tint (by decide) rfl (.tmp 60) (.tmp 63) rfl rfl (HO8.out.grow ((Grow.refl _).alloc _)) rfl (Src.of_new (T := Ty.int) (x := r.deed) (cs := #[.int .i64 r.deed]) ⟨rfl, HTI.out⟩ _ _ ?d1) ?d2 ?d3 ?_))
        case d1 => first | rfl | simp
        case d2 => have := HL8.out; simp; omega
        case d3 => have := HO8.out; have h8 := HS8.out; have h9 := HS6.out; have := HSZ.out; have := HS5.out; simp; omega
        intro a9 c9 w9 ho9 hg9 hb9
        have HLT := HO8.out.lt
        have HG9 : Hid (Grow w w9) := Lib.hid ((HB8.out.alloc _).grown hg9 (fun q hq => by have := (HLT q hq).1; omega))
        have ha8 : Grow w8 (w8.alloc (.cells #[.int .i64 r.deed] 3)) := (Grow.refl _).alloc _
        have HR9 := Lib.hid (row_by (row_grow HR8.out ha8) hg9 (by intro e; have := (HLT _ e.symm).1; omega))
        have HW9 := Lib.hid (row_by (row_grow HW8.out ha8) hg9 (by intro e; have h5 := (HQ7.out _ e.symm).2; have h6 := HLW.out; omega))
        have HX9 := Lib.hid (keep_rg (HX8.out.trans ha8.sub) hg9 (fun q hq => (HQ7.out q hq).1))
        have HY9 := Lib.hid (keep_rg (HY8.out.trans ha8.sub) hg9 (fun q hq => by have h5 := (HQ7.out q hq).2; have := HQL.out; omega))
        have HO9 := Lib.hid ho9
        have HQ9 : Hid (∀ q, (Value.slice a9 (lr.length + [r.deed].length) c9).ownBlock = some q → (q < wB.heap.size ∨ w5.heap.size ≤ q) ∧ (q < BR ∨ w6.heap.size ≤ q)) := Lib.hid (fun q hq => by
         rcases hb9 with hb9 | ⟨g, hb9, hge⟩
         ·exact HQ7.out q (hb9.symm.trans hq)
         ·obtain rfl := Option.some.inj (hb9.symm.trans hq)
          have h1 := HS8.out; have h2 := HS6.out; (try simp at hge); exact ⟨.inr (by omega), .inr (by omega)⟩)
        have HS9 : Hid (w6.heap.size ≤ w9.heap.size) := Lib.hid (by have h8 := hg9.size; simp at h8; have := HS8.out; omega)
        clear ho9 hg9 hb9 HLT s0 s1 zR ha8
        go_wp2
        go_roundw
        case rel => exact ⟨j + 1, by omega, by go_num, HG9.out, HR9.out, by rw [HFN.out, ← List.append_assoc, HLR.out]; exact HO9.out, HX9.out, HY9.out, HW9.out, HQ9.out, HS9.out⟩
        case measure => simp [intOf]; omega
      ·have hTL : ns.take j = ns := List.take_of_length_le (by omega)
       rw [hTL, ← HAT.out] at HO7 HQ7 ⊢
       clear hTL
       generalize hl9 : lm ++ openAt x.houses r = l9 at *
       have HL9 := Lib.hid hl9
       clear hl9
       go_wp2
       go_roundw
       case rel => exact ⟨k3 + 1, by omega, by go_num, HB7.out, HR7.out, by rw [HDX.out, ← List.append_assoc, HLM.out, HL9.out]; exact HO7.out, HX7.out, fun q hq => (HQ7.out q hq).1, Nat.le_trans HS6.out.1 HS7.out⟩
       case measure => simp [intOf]; omega
    ·have hTL : D.take k3 = D := List.take_of_length_le (by omega)
     have HLZ : Hid ((ls ++ openDec x.houses D).length ≤ 300012) := Lib.hid (by
      rw [List.length_append]
      have h9 := flat_short (f := openAt x.houses) (b := 3) (fun r => by unfold openAt; rw [List.length_map]; exact Nat.le_trans (List.length_filter_le _ _) (houses_short _)) D
      unfold openDec
      have := HLK.out
      omega)
     rw [hTL] at HO3 ⊢
     clear hTL
     generalize ls ++ openDec x.houses D = lm at *
     have HLT := Lib.hid HO3.out.lt
     go_wp2_with fail
     refine (own_sort' HO3.out.toInts (by have := HLZ.out; omega)).mono ?_
     rintro e w8 ⟨rfl, ho8, hg8⟩
     have HO8 := Lib.hid ho8
     have HG8 := Lib.hid (HB3.out.grown hg8 (fun q hq => by have := (HLT.out q hq).1; omega))
     have hml : (lm.mergeSort fun x y => decide (x ≤ y)).length = lm.length := List.length_mergeSort _
     have HML := Lib.hid hml
     clear ho8 hg8 hml
     go_wp2_with fail
     refine (own_compact HO8.out (by rw [HML.out]; have := HLZ.out; omega)).mono ?_
     rintro e w9 ⟨v9, rfl, ho9, hg9⟩
     rw [HOA.out] at ho9
     have HO9 := Lib.hid ho9
     have HG9 := Lib.hid (HG8.out.grown hg9 (fun q hq => by have := (HLT.out q hq).1; omega))
     clear ho9 hg9
     go_wp2
     go_ret
     exact ⟨_, rfl, (OwnC.ints HO9.out (fun y hy => by
      unfold opensE at hy
      obtain ⟨d, hd, rfl⟩ := List.mem_map.1 (List.mem_filter.1 hy).1
      have := List.mem_range.1 hd
      exact i64_of (by omega) (by omega))).base (Nat.le_succ _), HG9.out⟩
set_option maxRecDepth 100000 in
set_option maxHeartbeats 4000000 in
theorem lookTells_walk {n0 : Int} {v : Value} {l : List St} (w : World) (_hn : I64 n0) (hv : Sl Ty.st w.cell? v l) (_hs : l.length * 40 ≤ 140737488351232) :
  Calls Try.prog 17 #[.int .i64 n0, v] w fun e w' => e = .returned (.bool true) ∧ Grow w w' := by
 by_cases hlo : n0 < 1
 ·clear hv
  go_enter Try.func17, Try.ntmps17
  go_wp2
  go_ret
  exact ⟨rfl, (by repeat (first | with_reducible assumption | with_reducible exact Grow.refl _ | with_reducible apply Grow.drewN | with_reducible apply Grow.drew | with_reducible apply Grow.alloc | (refine Grow.setCell ?_ (by simp; done) _)))⟩
 by_cases hhi : 3 < n0
 ·clear hv
  go_enter Try.func17, Try.ntmps17
  go_wp2
  go_ret
  exact ⟨rfl, (by repeat (first | with_reducible assumption | with_reducible exact Grow.refl _ | with_reducible apply Grow.drewN | with_reducible apply Grow.drew | with_reducible apply Grow.alloc | (refine Grow.setCell ?_ (by simp; done) _)))⟩
 obtain ⟨n, rfl⟩ : ∃ n : Nat, n0 = (n : Int) := ⟨n0.toNat, by omega⟩
 have hn : 1 ≤ n ∧ n ≤ 3 := by omega
 obtain ⟨G, hwi, -⟩ := WI.of_play hn (l.take 150)
 have hfw := Few.play n (l.take 150) (Few.zero n)
 have hlp := logP_play (l.take 150) (logP_new n)
 have HPL := Lib.hid (ref_play (l := l) w hn hv)
 have hv' := hv
 obtain ⟨a1, c1, rfl, -⟩ := hv'
 have hlg : (playA (newA n) (l.take 150)).head.log.length ≤ 100000 := by have := hfw.log; rw [List.length_take] at this; omega
 clear hfw hv
 have HLG := Lib.hid hlg
 have HLP := Lib.hid hlp
 have HWI := Lib.hid hwi
 clear hlg hlp hwi
 generalize playA (newA n) (l.take 150) = x at *
 have HL3 : Hid (x.houses.length ≤ 3) := Lib.hid (by rw [HWI.out.core.len]; exact hn.2)
 have HDP : Hid (∀ r ∈ decidedR x.head.log, r.parts.length ≤ 4) := Lib.hid (fun r hr => (wrong_ok (HWI.out.core.reg.ok _ (HWI.out.core.dec.reg r hr)).2).2.1)
 clear hn
 go_enter Try.func17, Try.ntmps17
 go_wp2_with fail
 refine HPL.out.mono ?_
 rintro e w2 ⟨v2, v3, rfl, hx2, hes, hb2⟩
 obtain ⟨al, cl, ao, co, ah, ch, an, cn, rfl⟩ := hx2.wd_form
 have HX2 := Lib.hid hx2
 have HB2 := Lib.hid hb2
 clear hx2 hes hb2 HPL
 go_upto_region 4 with fail
 obtain ⟨w3, hw3⟩ : ∃ y : World, y = w2.alloc (.cells #[.slice al x.head.log.length cl, .int .i64 x.head.boot, .int .i64 x.head.next, .slice ao x.head.opn.length co, .slice ah x.houses.length ch, .slice an x.net.length cn] 93) := ⟨_, rfl⟩
 obtain ⟨B5, hB5⟩ : ∃ y, y = w2.heap.size := ⟨_, rfl⟩
 have G23 : Hid (Grow w2 w3) := Lib.hid (by rw [hw3]; exact (Grow.refl _).alloc _)
 have R5 : Hid (w3.heap[B5]? = some (.cells #[.slice al x.head.log.length cl, .int .i64 x.head.boot, .int .i64 x.head.next, .slice ao x.head.opn.length co, .slice ah x.houses.length ch, .slice an x.net.length cn] 93 (0, 0))) := Lib.hid (by rw [hw3, hB5]; exact row_new _ _)
 rw [← hw3, ← hB5]
 clear hw3 hB5
 have HX := Lib.hid (HX2.out.mono G23.out.sub)
 have G3 := Lib.hid (HB2.out.trans G23.out)
 have HS : Hid (∀ W, Grow w3 W → W.cell? ⟨B5, 0, none⟩ = some (.slice al x.head.log.length cl) ∧ W.cell? ⟨B5, 1, none⟩ = some (.int .i64 x.head.boot) ∧ W.cell? ⟨B5, 2, none⟩ = some (.int .i64 x.head.next) ∧ W.cell? ⟨B5, 3, none⟩ = some (.slice ao x.head.opn.length co) ∧ W.cell? ⟨B5, 4, none⟩ = some (.slice ah x.houses.length ch) ∧ W.cell? ⟨B5, 5, none⟩ = some (.slice an x.net.length cn)) := fun W hW => by
  obtain ⟨k0, k1, k2, k3, k4, k5⟩ := cells6 (row_grow R5.out hW)
  exact ⟨k0, k1, k2, k3, k4, k5⟩
 refine but_start (fun w' => w'.cell? ⟨B5, 0, none⟩ = some (.slice al x.head.log.length cl) ∧ w'.cell? ⟨B5, 1, none⟩ = some (.int .i64 x.head.boot) ∧ w'.cell? ⟨B5, 2, none⟩ = some (.int .i64 x.head.next) ∧ w'.cell? ⟨B5, 3, none⟩ = some (.slice ao x.head.opn.length co) ∧ w'.cell? ⟨B5, 4, none⟩ = some (.slice ah x.houses.length ch) ∧ w'.cell? ⟨B5, 5, none⟩ = some (.slice an x.net.length cn)) 12 (by kernel_rfl) ?_
 obtain ⟨wd, hWd⟩ : ∃ x : World, x = w3.drew := ⟨_, rfl⟩
 rw [← hWd]
 have GD : Grow w3 wd := by rw [hWd]; exact (Grow.refl _).drew
 have zD : w3.heap.size = wd.heap.size := by rw [hWd]; rfl
 have ZD := Lib.hid zD
 clear hWd zD
 refine bLm [0] 16 (by kernel_rfl) (fun _ _ _ _ _ h => h) (HS.out _ GD) ?_
 repeat (refine tNm (v := ?_) rfl (by rfl) ?_ ?_; rotate_left; (· (intro w' hSw; (try dsimp only at hSw); obtain ⟨hs0, hs1, hs2, hs3, hs4, hs5⟩ := hSw; go_simp <;> with_reducible rfl)); try simp only [Act.put, lzA, lzC, lzD, lzE, lzF])
 refine tEm ?_
 refine bLm [2] 16 (by kernel_rfl) (fun _ _ _ _ _ h => h) (HS.out _ GD) ?_
 repeat (refine tNm (v := ?_) rfl (by rfl) ?_ ?_; rotate_left; (· (intro w' hSw; (try dsimp only at hSw); obtain ⟨hs0, hs1, hs2, hs3, hs4, hs5⟩ := hSw; go_simp <;> with_reducible rfl)); try simp only [Act.put, lzA, lzB, lzC, lzD, lzE, lzF])
 refine tEm ?_
 refine bO 1 (by kernel_rfl) rfl ?_
 intro K HK
 try simp only [lzA, lzB, lzC]
 go_simp
 go_at_call 74
 refine (look_sums _ (HX.out.mono (Grow.sub GD)) HL3.out).mono ?_
 rintro eA wA ⟨vA, rfl, hoA, hbA⟩
 obtain ⟨aA, cA, hvA⟩ := hoA.form
 generalize List.length _ = nA at hvA
 subst hvA
 have HA := Lib.hid (OwnC.sl (by decide) (fun _ _ e9 => by cases e9) hoA)
 have GA := Lib.hid (Grow.trans GD hbA)
 clear hoA hbA
 refine HK.out _ _ ⟨fun _ => HS.out _ GA.out, ?_⟩
 clear HK K
 try simp only [Act.put, lzA, lzB, lzC, lzD, lzE, lzF]
 refine bO 3 (by kernel_rfl) rfl ?_
 intro K HK
 try simp only [lzA, lzB, lzC]
 go_simp
 go_at_call 75
 refine (ref_sums _ (HX.out.mono (Grow.sub GA.out)) HL3.out).mono ?_
 rintro eB wB ⟨vB, rfl, hoB, hbB⟩
 obtain ⟨aB, cB, hvB⟩ := hoB.form
 generalize List.length _ = nB at hvB
 subst hvB
 have HA := Lib.hid (HA.out.mono hbB.sub)
 have HB := Lib.hid (OwnC.sl (by decide) (fun _ _ e9 => by cases e9) hoB)
 have GB := Lib.hid (Grow.trans GA.out hbB)
 clear hoB hbB
 refine HK.out _ _ ⟨fun _ => HS.out _ GB.out, ?_⟩
 clear HK K
 try simp only [Act.put, lzA, lzB, lzC, lzD, lzE, lzF]
 refine bO 4 (by kernel_rfl) rfl ?_
 intro K HK
 try simp only [lzA, lzB, lzC]
 go_simp
 go_at_call 73
 refine ((ref_sameSums _ HA.out HB.out).mono fun e9 w9 h9 => (⟨h9.1.trans (by rw [decide_eq_true rfl]), h9.2⟩ : e9 = Ending.returned (.bool true) ∧ Grow _ w9)).mono ?_
 rintro eC wC ⟨rfl, hbC⟩
 have GC := Lib.hid (Grow.trans GB.out hbC)
 clear hbC
 refine HK.out _ _ ⟨fun _ => HS.out _ GC.out, ?_⟩
 clear HK K
 try simp only [Act.put, lzA, lzB, lzC, lzD, lzE, lzF]
 refine bO 5 (by kernel_rfl) rfl ?_
 intro K HK
 try simp only [lzA, lzB, lzC]
 go_simp
 refine HK.out _ _ ⟨fun _ => HS.out _ GC.out, ?_⟩
 clear HK K
 try simp only [Act.put, lzA, lzB, lzC, lzD, lzE, lzF]
 refine bLm [6, 8] 16 (by kernel_rfl) (fun _ _ _ _ _ h => h) (HS.out _ GC.out) ?_
 repeat (refine tNm (v := ?_) rfl (by rfl) ?_ ?_; rotate_left; (· (intro w' hSw; (try dsimp only at hSw); obtain ⟨hs0, hs1, hs2, hs3, hs4, hs5⟩ := hSw; go_simp <;> with_reducible rfl)); try simp only [Act.put, lzA, lzB, lzC, lzD, lzE, lzF])
 refine tEm ?_
 refine bO 7 (by kernel_rfl) rfl ?_
 intro K HK
 refine wanted_yes (by rfl) ?_
 try simp only [lzA, lzB, lzC]
 go_simp
 go_at_call 76
 refine (look_open _ (HX.out.mono (Grow.sub GC.out)) HWI.out HLG.out HLP.out).mono ?_
 rintro eD wD ⟨vD, rfl, hoD, hbD⟩
 obtain ⟨aD, cD, hvD⟩ := hoD.form
 generalize List.length _ = nD at hvD
 subst hvD
 have HD := Lib.hid (OwnC.sl (by decide) (fun _ _ e9 => by cases e9) hoD)
 have GD := Lib.hid (Grow.trans GC.out hbD)
 clear hoD hbD
 refine HK.out _ _ ⟨fun _ => HS.out _ GD.out, ?_⟩
 clear HK K
 try simp only [Act.put, lzA, lzB, lzC, lzD, lzE, lzF]
 refine bO 9 (by kernel_rfl) rfl ?_
 intro K HK
 refine wanted_yes (by rfl) ?_
 try simp only [lzA, lzB, lzC]
 go_simp
 go_at_call 77
 refine (ref_openDeeds _ (HX.out.mono (Grow.sub GD.out)) HL3.out HLG.out HDP.out).mono ?_
 rintro eE wE ⟨vE, rfl, hoE, hbE⟩
 obtain ⟨aE, cE, hvE⟩ := hoE.form
 generalize List.length _ = nE at hvE
 subst hvE
 have HD := Lib.hid (HD.out.mono hbE.sub)
 have HE := Lib.hid (OwnC.sl (by decide) (fun _ _ e9 => by cases e9) hoE)
 have GE := Lib.hid (Grow.trans GD.out hbE)
 clear hoE hbE
 refine HK.out _ _ ⟨fun _ => HS.out _ GE.out, ?_⟩
 clear HK K
 try simp only [Act.put, lzA, lzB, lzC, lzD, lzE, lzF]
 refine bO 10 (by kernel_rfl) rfl ?_
 intro K HK
 refine wanted_yes (by rfl) ?_
 try simp only [lzA, lzB, lzC]
 go_simp
 go_at_call 48
 refine ((ref_sameInts _ HD.out HE.out).mono fun e9 w9 h9 => (⟨h9.1.trans (by rw [decide_eq_true rfl]), h9.2⟩ : e9 = Ending.returned (.bool true) ∧ Grow _ w9)).mono ?_
 rintro eF wF ⟨rfl, hbF⟩
 have GF := Lib.hid (Grow.trans GE.out hbF)
 clear hbF
 refine HK.out _ _ ⟨fun _ => HS.out _ GF.out, ?_⟩
 clear HK K
 try simp only [Act.put, lzA, lzB, lzC, lzD, lzE, lzF]
 refine bO 11 (by kernel_rfl) rfl ?_
 intro K HK
 try simp only [lzA, lzB, lzC]
 go_simp
 refine HK.out _ _ ⟨fun _ => HS.out _ GF.out, ?_⟩
 clear HK K
 try simp only [Act.put, lzA, lzB, lzC, lzD, lzE, lzF]
 refine bO 12 (by kernel_rfl) rfl ?_
 intro K HK
 try simp only [lzA, lzB, lzC]
 go_simp
 refine HK.out _ _ ⟨fun h => absurd rfl h, ?_⟩
 clear HK K
 try simp only [Act.put, lzA, lzB, lzC, lzD, lzE, lzF]
 refine but_done (by kernel_rfl) ?_
 go_wp2
 go_ret
 exact ⟨rfl, G3.out.trans GF.out⟩
end Go.Proofs.Ytgbhpghgohggcaa
namespace Go.Proofs.Ytgbhpghgohggcaa
open Go.RowKit Go.ChangeShapes Go.WideShapes Go.ChangeAt
def Reads {α : Type} (P : Program) (t : TypeId) (T : Ty α) : Prop := ∀ (H : Type) (enc : TypeId × Value → H) (W : World) (fuel : Nat) (cs : List Value) (x : DataW H × List MemPlace),
 DataW.trod enc P W 0 (fun _ => true) true fuel t cs = some x → ∃ y, T.R W.cell? cs y
theorem reads_int {P : Program} {t : TypeId} (ht : P.underlying t = some (.int .i64)) : Reads P t Ty.int := by
 intro H enc W fuel cs x h
 obtain ⟨n, rfl, _, hw⟩ := DataW.trod_int ht h
 exact ⟨n, rfl, hw⟩
theorem reads_sl {α : Type} {P : Program} {t e : TypeId} {T : Ty α} (hR : Reads P e T) (ht : P.underlying t = some (.slice e)) (hc : P.cellsOf e = T.size) (h0 : 0 < T.size) : Reads P t T.sl := by
 intro H enc W fuel cs x h
 rcases Deep.open_slice ht h with ⟨rfl, _⟩ | ⟨a, len, cap, m, n, D, Pl, rfl, _, hl, hm, hmm, hxe, hx⟩
 ·exact ⟨[], _, rfl, none, 0, rfl, Nat.le_refl _, Nat.zero_le _, fun _ => rfl, fun i x e => by simp at e⟩
 ·simp only [if_true] at hmm
  subst m
  have h2 : ∀ i, i < len → ∃ (p : List Value × α), T.R W.cell? p.1 p.2 ∧ W.cells? 0 (a.add (i * T.size)) T.size = some p.1 := by
   intro i hi
   obtain ⟨cs', h1, h2⟩ := hx i (by omega)
   obtain ⟨y, hy⟩ := hR H enc W n cs' _ h2
   rw [hc] at h1
   exact ⟨(cs', y), hy, h1⟩
  have h3 : ∃ l : List α, l.length = len ∧ ∀ i y, l[i]? = some y → ∃ cs', T.R W.cell? cs' y ∧ W.cells? 0 (a.add (i * T.size)) T.size = some cs' := by
   clear hx hl h hxe
   induction len with
   | zero => exact ⟨[], rfl, by simp⟩
   | succ len ih =>
    obtain ⟨l, hl, hi⟩ := ih (by intro i hi; exact h2 i (by omega))
    obtain ⟨⟨cs', y⟩, hy, h1⟩ := h2 len (by omega)
    refine ⟨l ++ [y], by simp [hl], fun i z hz => ?_⟩
    rcases Nat.lt_or_ge i l.length with hlt | hge
    ·rw [List.getElem?_append_left hlt] at hz; exact hi i z hz
    ·have hb := (List.getElem?_eq_some_iff.1 hz).1
     simp at hb
     obtain rfl : i = len := by omega
     rw [List.getElem?_append_right hge, hl] at hz
     simp at hz
     subst hz
     exact ⟨cs', hy, h1⟩
  obtain ⟨l, hlen, hl2⟩ := h3
  refine ⟨l, _, rfl, some a, cap, by rw [hlen], by omega, hm, by simp, fun i y hy => ?_⟩
  obtain ⟨cs', hR', hcs⟩ := hl2 i y hy
  obtain ⟨_, hlen', hat⟩ := World.cells?_some hcs
  have hpos : 0 < l.length := by have := (List.getElem?_eq_some_iff.1 hy).1; omega
  obtain ⟨cs0, _, hcs0⟩ := hl2 0 l[0] (List.getElem?_eq_getElem hpos)
  obtain ⟨_, hlen0, hat0⟩ := World.cells?_some hcs0
  have hfirst := hat0 0 h0
  rw [List.getElem?_eq_getElem (by omega)] at hfirst
  have hsp := World.cell?_spot hfirst
  obtain ⟨b, o, s⟩ := a
  have hs : s = none := by simpa [Addr.add] using hsp
  subst hs
  refine ⟨b, o, cs', rfl, hR', fun j u hu => ?_⟩
  have hj : j < T.size := by rw [← hlen']; exact (List.getElem?_eq_some_iff.1 hu).1
  have := hat j hj
  rw [Addr.add_lit, Addr.add_lit, hu] at this
  exact this
def structOf (P : Program) (t : TypeId) : Option (List (TypeId × Nat × Nat)) :=
 match P.underlying t with
 | some (.struct fs) => some (fs.toList.map fun f => (f.type, f.offset, P.cellsOf f.type))
 | _ => none
theorem struct_fields {P : Program} {t : TypeId} {fs' : List (TypeId × Nat × Nat)} (hs : structOf P t = some fs') {H : Type} {enc : TypeId × Value → H} {W : World} {fuel : Nat} {cs : List Value} {x : DataW H × List MemPlace}
  (h : DataW.trod enc P W 0 (fun _ => true) true fuel t cs = some x) : cs.length = P.cellsOf t ∧ ∀ (i : Nat) (f : TypeId × Nat × Nat), fs'[i]? = some f → ∃ n y, DataW.trod enc P W 0 (fun _ => true) true n f.1 ((cs.drop f.2.1).take f.2.2) = some y := by
 unfold structOf at hs
 split at hs
 ·rename_i fs hu
  obtain rfl := Option.some.inj hs
  obtain ⟨xs, n, _, _, hl, hlen, hf⟩ := DataW.trod_struct hu h
  refine ⟨hl, fun i f hi => ?_⟩
  rw [List.getElem?_map] at hi
  cases hfi : fs.toList[i]? with
  | none => rw [hfi] at hi; cases hi
  | some fd =>
   rw [hfi] at hi
   obtain rfl := Option.some.inj hi
   have hfi' : fs[i]? = some fd := by simpa using hfi
   have hlt : i < xs.length := by rw [hlen]; exact (Array.getElem?_eq_some_iff.1 hfi').1
   have := hf i fd hfi'
   rw [List.getElem?_eq_getElem hlt] at this
   exact ⟨n, _, this⟩
 ·cases hs
theorem reads_pt : Reads Try.prog 32 Ty.pt := by
 intro H enc W fuel cs x h
 obtain ⟨hl, hf⟩ := struct_fields (fs' := [(3, 0, 1), (3, 1, 1), (3, 2, 1)]) (by kernel_rfl) h
 rw [show (Try.prog).cellsOf 32 = 3 by kernel_rfl] at hl
 match cs, hl with
 | [a, b, c], _ =>
  obtain ⟨_, _, h0⟩ := hf 0 _ rfl
  obtain ⟨_, _, h1⟩ := hf 1 _ rfl
  obtain ⟨_, _, h2⟩ := hf 2 _ rfl
  obtain ⟨x0, e0, w0⟩ := reads_int (by kernel_rfl) _ _ _ _ _ _ h0
  obtain ⟨x1, e1, w1⟩ := reads_int (by kernel_rfl) _ _ _ _ _ _ h1
  obtain ⟨x2, e2, w2⟩ := reads_int (by kernel_rfl) _ _ _ _ _ _ h2
  refine ⟨⟨x0, x1, x2⟩, ?_, w0, w1, w2⟩
  simp at e0 e1 e2
  subst e0 e1 e2
  rfl
theorem reads_pts : Reads Try.prog 23 Ty.pts := reads_sl reads_pt (by kernel_rfl) (by kernel_rfl) (by decide)
theorem arg_sl {α : Type} {P : Program} {t e : TypeId} {T : Ty α} (hR : Reads P t T.sl) (ht : P.underlying t = some (.slice e)) {H : Type} {enc : TypeId × Value → H} {W : World} {r : Reach} {b : Nat} {v : Value} {d : DataW H} {p : List MemPlace}
  (hval : Value.okWide P W r b t v) (h : DataW.Trod enc P W 0 (fun _ => true) true t v d p) : ∃ l, Sl T W.cell? v l := by
 obtain ⟨a, len, cap, rfl⟩ := okWide_slice ht hval
 obtain ⟨fuel, hf⟩ := h
 obtain ⟨l, v, e, hv⟩ := hR _ _ _ _ _ _ hf
 simp [Value.cells] at e
 subst e
 exact ⟨l, hv⟩
theorem own : ownKnob (Try.prog).godebug = none := by kernel_rfl
theorem laidOut : laidOutB Try.prog = true := by kernel_rfl
end Go.Proofs.Ytgbhpghgohggcaa
namespace Go.Proofs.Ytgbhpghgohggcaa
open Go.RowKit Go.ChangeShapes Go.WideShapes Go.ChangeAt
theorem sl_len {α : Type} {T : Ty α} {c : CM} {a : Option Addr} {n cap : Nat} {l : List α} (h : Sl T c (.slice a n cap) l) : l.length = n := by
 obtain ⟨a', cap', he, _⟩ := h
 simp only [Value.slice.injEq] at he
 exact he.2.1.symm
theorem arg_size {α : Type} {P : Program} {t e : TypeId} {T : Ty α} {k : Nat} (ht : P.underlying t = some (.slice e)) (hb : P.bytesOf e = k) {H : Type} {enc : TypeId × Value → H} {W : World} {r : Reach} {b : Nat} {v : Value} {d : DataW H} {p : List MemPlace} {ts : List TypeId} {ds : List (DataW H)} {j : Nat}
  (hsz : (DataW.weightsEach P ts ds).all (· ≤ reachBytes) = true) (hj : ts[j]? = some t) (hd : ds[j]? = some d)
  (hval : Value.okWide P W r b t v) (h : DataW.Trod enc P W 0 (fun _ => true) true t v d p) {l : List α} (hl : Sl T W.cell? v l) : l.length * k ≤ 140737488351232 := by
 obtain ⟨a, len, cap, rfl⟩ := okWide_slice ht hval
 obtain ⟨fuel, hf⟩ := h
 have hll := sl_len hl
 rcases Deep.open_slice ht hf with ⟨he, _⟩ | ⟨a', len', cap', m, n, D, Pl, he, _, hlc, _, hmm, hxe, _⟩
 ·simp [Value.cells] at he
  rw [hll, he.2.1]; simp
 ·simp [Value.cells] at he
  obtain ⟨_, rfl, rfl⟩ := he
  obtain rfl : d = .slice ((List.range len).map D) ((List.range (m - len)).map fun j => D (len + j)) := by simpa using congrArg Prod.fst hxe
  have := sized_slice hsz hj hd ht
  rw [hb, List.length_map, List.length_range] at this
  rw [hll]
  have h2 : len * k ≤ (len + ((List.range (m - len)).map fun j => D (len + j)).length) * k := Nat.mul_le_mul_right _ (Nat.le_add_right _ _)
  have h3 : reachBytes = 140737488351232 := rfl
  omega
theorem reads_st : Reads Try.prog 164 Ty.st := by
 intro H enc W fuel cs x h
 obtain ⟨hl, hf⟩ := struct_fields (fs' := [(3, 0, 1), (3, 1, 1), (23, 2, 1)]) (by kernel_rfl) h
 rw [show (Try.prog).cellsOf 164 = 3 by kernel_rfl] at hl
 match cs, hl with
 | [a, b, c], _ =>
  obtain ⟨_, _, h0⟩ := hf 0 _ rfl
  obtain ⟨_, _, h1⟩ := hf 1 _ rfl
  obtain ⟨_, _, h2⟩ := hf 2 _ rfl
  obtain ⟨x0, e0, w0⟩ := reads_int (by kernel_rfl) _ _ _ _ _ _ h0
  obtain ⟨x1, e1, w1⟩ := reads_int (by kernel_rfl) _ _ _ _ _ _ h1
  obtain ⟨x2, v2, e2, w2⟩ := reads_pts _ _ _ _ _ _ h2
  refine ⟨⟨x0, x1, x2⟩, v2, ?_, w0, w1, w2⟩
  simp at e0 e1 e2
  subst e0 e1 e2
  rfl
theorem reads_sts : Reads Try.prog 90 (Ty.sl Ty.st) := reads_sl reads_st (by kernel_rfl) (by kernel_rfl) (by decide)
end Go.Proofs.Ytgbhpghgohggcaa
