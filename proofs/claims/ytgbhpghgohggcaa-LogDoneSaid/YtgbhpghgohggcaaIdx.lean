/- Walks: slices.IndexFunc, ContainsFunc. -/
import Derived.Test.YtgbhpghgohggcaaTy
import Derived.Shelf.SlicesQ.IndexFunc
namespace Go.Proofs.Ytgbhpghgohggcaa
open Go.RowKit

/-- the first place at which p holds, or -1 -/
def idxOf {α : Type} (p : α → Bool) (l : List α) : Int := match l.findIdx? p with | some i => i | none => -1
theorem idxOf_nonneg {α : Type} (p : α → Bool) (l : List α) : decide (0 ≤ idxOf p l) = l.any p := by
  unfold idxOf
  cases h : l.findIdx? p with
  | none =>
    rw [List.findIdx?_eq_none_iff] at h
    symm
    simp only [show decide ((0 : Int) ≤ -1) = false from rfl]
    rw [List.any_eq_false]
    intro x hx; simp [h x hx]
  | some i =>
    rw [List.findIdx?_eq_some_iff_getElem] at h
    obtain ⟨hi, hp, _⟩ := h
    simp only [show decide ((0 : Int) ≤ (i : Int)) = true by simp]
    symm
    rw [List.any_eq_true]
    exact ⟨l[i], List.getElem_mem _, hp⟩
/-- a function value that tells p of what lies in cells -/
structure Tells {α : Type} (P : Program) (T : Ty α) (val : List Value → Value) (w : World) (F : FuncId) (caps : Array Value) (l : List α) (p : α → Bool) : Prop where
  ent : ∀ args w, (callFunc F args).run P w = .ok (.enter F args) w
  say : ∀ (wx : World) (cs : List Value) (x : α), Grow w wx → x ∈ l → T.R wx.cell? cs x → Calls P F (#[val cs] ++ caps) wx fun e w' => e = .returned (.bool (p x)) ∧ Grow wx w'
def aggOf (cs : List Value) : Value := .agg cs.toArray
def oneOf (cs : List Value) : Value := cs.getD 0 undef
theorem Tells.later {α : Type} {P : Program} {T : Ty α} {val : List Value → Value} {w w' : World} {F : FuncId} {caps : Array Value} {l : List α} {p : α → Bool} (h : Tells P T val w F caps l p) (hg : Grow w w') : Tells P T val w' F caps l p :=
  ⟨h.ent, fun wx cs x hG => h.say wx cs x (hg.trans hG)⟩
theorem idx_step {α : Type} {p : α → Bool} {l : List α} {k : Nat} (hlt : k < l.length) (hE : (l.take k).findIdx? p = none) :
    (p l[k] = true → idxOf p l = (k : Int)) ∧ (p l[k] = false → (l.take (k + 1)).findIdx? p = none) := by
  constructor
  · intro hq
    have : l.findIdx? p = some k := by
      rw [List.findIdx?_eq_some_iff_getElem]
      refine ⟨hlt, hq, fun j hj => ?_⟩
      rw [List.findIdx?_eq_none_iff] at hE
      have h := hE l[j] (by rw [List.mem_take_iff_getElem]; exact ⟨j, by omega, rfl⟩)
      simpa using h
    rw [idxOf, this]
  · intro hq
    rw [List.take_succ_eq_append_getElem hlt, List.findIdx?_append, hE]; simp [hq]

set_option maxHeartbeats 400000 in
theorem indexFunc_pt {v : Value} {l : List Pt} {F : FuncId} {caps : Array Value} {p : Pt → Bool} (w : World) (hv : Sl Ty.pt w.cell? v l) (hp : Tells Try.prog Ty.pt aggOf w F caps l p) :
    Calls Try.prog 161 #[v, .func (.func F) #[] caps] w fun e w' => e = .returned (.int .i64 (idxOf p l)) ∧ Grow w w' := by
  obtain ⟨a, cap, rfl, h1, h2, -, hel⟩ := hv
  unfold maxLen at h2
  go_enter Try.func161, Try.ntmps161
  go_wp2
  go_loopw [4, 5, 8] (fun _ _ i wr => ∃ k : Nat, k ≤ l.length ∧ i = .int .i64 k ∧ Grow w wr ∧ (l.take k).findIdx? p = none) (fun _ _ i _ => l.length - (intOf i).toNat)
  case atStart => exact ⟨0, by omega, rfl, Grow.refl _, rfl⟩
  case round =>
    obtain ⟨k, hk', rfl, hb, hE⟩ := hrel
    have HE := Lib.hid hE
    clear hE
    by_cases hlt : k < l.length
    · obtain ⟨b, o, rfl, c0, c1, c2, hR⟩ := Pts.at_ hel k hlt
      replace c0 := hb.sub _ _ c0
      replace c1 := hb.sub _ _ c1
      replace c2 := hb.sub _ _ c2
      have HP := Lib.hid (hp.say wr l[k].cells l[k] hb (List.getElem_mem _) ⟨rfl, hR⟩)
      have eg := hp.ent
      obtain ⟨hq1, hq2⟩ := idx_step hlt HE.out
      clear HE hp hel hR
      simp only [Pt.cells, aggOf] at HP
      generalize l[k] = q at *
      have H1 := Lib.hid hq1
      have H2 := Lib.hid hq2
      clear hq1 hq2
      cases hq : p q
      · rw [hq] at HP
        go_wp2_with (go_at_fn F; refine HP.out.mono ?_; rintro e w' ⟨rfl, hb'⟩)
        go_roundw
        case rel => exact ⟨k + 1, by omega, by go_num, hb.trans hb', H2.out hq⟩
        case measure => simp [intOf]; omega
      · rw [hq] at HP
        go_wp2_with (go_at_fn F; refine HP.out.mono ?_; rintro e w' ⟨rfl, hb'⟩)
        go_ret
        exact ⟨ret_int (H1.out hq).symm, hb.trans hb'⟩
    · clear hel hp
      go_wp2
      go_ret
      refine ⟨ret_int ?_, hb⟩
      have h := HE.out
      rw [List.take_of_length_le (by omega)] at h
      rw [idxOf, h]

set_option maxHeartbeats 400000 in
theorem containsFunc_pt {v : Value} {l : List Pt} {F : FuncId} {caps : Array Value} {p : Pt → Bool} (w : World) (hv : Sl Ty.pt w.cell? v l) (hp : Tells Try.prog Ty.pt aggOf w F caps l p) :
    Calls Try.prog 115 #[v, .func (.func F) #[] caps] w fun e w' => e = .returned (.bool (l.any p)) ∧ Grow w w' := by
  have HI := Lib.hid (indexFunc_pt w hv hp)
  have HN := Lib.hid (idxOf_nonneg p l)
  clear hv hp
  generalize idxOf p l = i at *
  go_enter Try.func115, Try.ntmps115
  go_wp2_with (go_at_call 161; refine HI.out.mono ?_; rintro e w' ⟨rfl, hb'⟩)
  go_ret
  exact ⟨ret_bool HN.out, hb'⟩

set_option maxHeartbeats 400000 in
theorem indexFunc_rd {v : Value} {l : List Rd} {F : FuncId} {caps : Array Value} {p : Rd → Bool} (w : World) (hv : Sl Ty.rd w.cell? v l) (hp : Tells Try.prog Ty.rd aggOf w F caps l p) :
    Calls Try.prog 145 #[v, .func (.func F) #[] caps] w fun e w' => e = .returned (.int .i64 (idxOf p l)) ∧ Grow w w' := by
  obtain ⟨a, cap, rfl, h1, h2, -, hel⟩ := hv
  unfold maxLen at h2
  go_enter Try.func145, Try.ntmps145
  go_wp2
  go_loopw [4, 5, 8] (fun _ _ i wr => ∃ k : Nat, k ≤ l.length ∧ i = .int .i64 k ∧ Grow w wr ∧ (l.take k).findIdx? p = none) (fun _ _ i _ => l.length - (intOf i).toNat)
  case atStart => exact ⟨0, by omega, rfl, Grow.refl _, rfl⟩
  case round =>
    obtain ⟨k, hk', rfl, hb, hE⟩ := hrel
    have HE := Lib.hid hE
    clear hE
    by_cases hlt : k < l.length
    · obtain ⟨b, o, v1, rfl, c0, c1, hR⟩ := Rds.at_ hel k hlt
      replace c0 := hb.sub _ _ c0
      replace c1 := hb.sub _ _ c1
      have HP := Lib.hid (hp.say wr [.int .i64 l[k].deed, v1] l[k] hb (List.getElem_mem _) ⟨v1, rfl, hR.1, hR.2.mono hb.sub⟩)
      have eg := hp.ent
      obtain ⟨hq1, hq2⟩ := idx_step hlt HE.out
      clear HE hp hel hR
      simp only [aggOf] at HP
      generalize l[k] = q at *
      have H1 := Lib.hid hq1
      have H2 := Lib.hid hq2
      clear hq1 hq2
      cases hq : p q
      · rw [hq] at HP
        go_wp2_with (go_at_fn F; refine HP.out.mono ?_; rintro e w' ⟨rfl, hb'⟩)
        go_roundw
        case rel => exact ⟨k + 1, by omega, by go_num, hb.trans hb', H2.out hq⟩
        case measure => simp [intOf]; omega
      · rw [hq] at HP
        go_wp2_with (go_at_fn F; refine HP.out.mono ?_; rintro e w' ⟨rfl, hb'⟩)
        go_ret
        exact ⟨ret_int (H1.out hq).symm, hb.trans hb'⟩
    · clear hel hp
      go_wp2
      go_ret
      refine ⟨ret_int ?_, hb⟩
      have h := HE.out
      rw [List.take_of_length_le (by omega)] at h
      rw [idxOf, h]

set_option maxHeartbeats 400000 in
theorem containsFunc_rd {v : Value} {l : List Rd} {F : FuncId} {caps : Array Value} {p : Rd → Bool} (w : World) (hv : Sl Ty.rd w.cell? v l) (hp : Tells Try.prog Ty.rd aggOf w F caps l p) :
    Calls Try.prog 163 #[v, .func (.func F) #[] caps] w fun e w' => e = .returned (.bool (l.any p)) ∧ Grow w w' := by
  have HI := Lib.hid (indexFunc_rd w hv hp)
  have HN := Lib.hid (idxOf_nonneg p l)
  clear hv hp
  generalize idxOf p l = i at *
  go_enter Try.func163, Try.ntmps163
  go_wp2_with (go_at_call 145; refine HI.out.mono ?_; rintro e w' ⟨rfl, hb'⟩)
  go_ret
  exact ⟨ret_bool HN.out, hb'⟩

set_option maxHeartbeats 400000 in
theorem indexFunc_opn {v : Value} {l : List Opn} {F : FuncId} {caps : Array Value} {p : Opn → Bool} (w : World) (hv : Sl Ty.opn w.cell? v l) (hp : Tells Try.prog Ty.opn aggOf w F caps l p) :
    Calls Try.prog 156 #[v, .func (.func F) #[] caps] w fun e w' => e = .returned (.int .i64 (idxOf p l)) ∧ Grow w w' := by
  obtain ⟨a, cap, rfl, h1, h2, -, hel⟩ := hv
  unfold maxLen at h2
  go_enter Try.func156, Try.ntmps156
  go_wp2
  go_loopw [4, 5, 8] (fun _ _ i wr => ∃ k : Nat, k ≤ l.length ∧ i = .int .i64 k ∧ Grow w wr ∧ (l.take k).findIdx? p = none) (fun _ _ i _ => l.length - (intOf i).toNat)
  case atStart => exact ⟨0, by omega, rfl, Grow.refl _, rfl⟩
  case round =>
    obtain ⟨k, hk', rfl, hb, hE⟩ := hrel
    have HE := Lib.hid hE
    clear hE
    by_cases hlt : k < l.length
    · obtain ⟨b, o, v1, v2, rfl, c0, c1, c2, c3, hR⟩ := Opns.at_ hel k hlt
      replace c0 := hb.sub _ _ c0
      replace c1 := hb.sub _ _ c1
      replace c2 := hb.sub _ _ c2
      replace c3 := hb.sub _ _ c3
      have HP := Lib.hid (hp.say wr [.int .i64 l[k].deed, v1, .bool l[k].dec, v2] l[k] hb (List.getElem_mem _) ⟨v1, v2, rfl, hR.1, hR.2.1.mono hb.sub, hR.2.2.mono hb.sub⟩)
      have eg := hp.ent
      obtain ⟨hq1, hq2⟩ := idx_step hlt HE.out
      clear HE hp hel hR
      simp only [aggOf] at HP
      generalize l[k] = q at *
      have H1 := Lib.hid hq1
      have H2 := Lib.hid hq2
      clear hq1 hq2
      cases hq : p q
      · rw [hq] at HP
        go_wp2_with (go_at_fn F; refine HP.out.mono ?_; rintro e w' ⟨rfl, hb'⟩)
        go_roundw
        case rel => exact ⟨k + 1, by omega, by go_num, hb.trans hb', H2.out hq⟩
        case measure => simp [intOf]; omega
      · rw [hq] at HP
        go_wp2_with (go_at_fn F; refine HP.out.mono ?_; rintro e w' ⟨rfl, hb'⟩)
        go_ret
        exact ⟨ret_int (H1.out hq).symm, hb.trans hb'⟩
    · clear hel hp
      go_wp2
      go_ret
      refine ⟨ret_int ?_, hb⟩
      have h := HE.out
      rw [List.take_of_length_le (by omega)] at h
      rw [idxOf, h]

set_option maxHeartbeats 400000 in
theorem indexFunc_errno {v : Value} {l : List Int} {F : FuncId} {caps : Array Value} {p : Int → Bool} (w : World) (hv : Sl Ty.int w.cell? v l) (hp : Tells Try.prog Ty.int oneOf w F caps l p) :
    Calls Try.prog 170 #[v, .func (.func F) #[] caps] w fun e w' => e = .returned (.int .i64 (idxOf p l)) ∧ Grow w w' := by
  obtain ⟨a, cap, rfl, h1, h2, -, hel⟩ := hv
  unfold maxLen at h2
  go_enter Try.func170, Try.ntmps170
  go_wp2
  go_loopw [4, 5, 8] (fun _ _ i wr => ∃ k : Nat, k ≤ l.length ∧ i = .int .i64 k ∧ Grow w wr ∧ (l.take k).findIdx? p = none) (fun _ _ i _ => l.length - (intOf i).toNat)
  case atStart => exact ⟨0, by omega, rfl, Grow.refl _, rfl⟩
  case round =>
    obtain ⟨k, hk', rfl, hb, hE⟩ := hrel
    have HE := Lib.hid hE
    clear hE
    by_cases hlt : k < l.length
    · obtain ⟨b, o, rfl, c0, hR⟩ := intAt hel k hlt
      replace c0 := hb.sub _ _ c0
      have HP := Lib.hid (hp.say wr [.int .i64 l[k]] l[k] hb (List.getElem_mem _) ⟨rfl, hR⟩)
      have eg := hp.ent
      obtain ⟨hq1, hq2⟩ := idx_step hlt HE.out
      clear HE hp hel hR
      simp only [oneOf, List.getD_cons_zero] at HP
      generalize l[k] = q at *
      have H1 := Lib.hid hq1
      have H2 := Lib.hid hq2
      clear hq1 hq2
      cases hq : p q
      · rw [hq] at HP
        go_wp2_with (go_at_fn F; refine HP.out.mono ?_; rintro e w' ⟨rfl, hb'⟩)
        go_roundw
        case rel => exact ⟨k + 1, by omega, by go_num, hb.trans hb', H2.out hq⟩
        case measure => simp [intOf]; omega
      · rw [hq] at HP
        go_wp2_with (go_at_fn F; refine HP.out.mono ?_; rintro e w' ⟨rfl, hb'⟩)
        go_ret
        exact ⟨ret_int (H1.out hq).symm, hb.trans hb'⟩
    · clear hel hp
      go_wp2
      go_ret
      refine ⟨ret_int ?_, hb⟩
      have h := HE.out
      rw [List.take_of_length_le (by omega)] at h
      rw [idxOf, h]

set_option maxHeartbeats 400000 in
theorem containsFunc_errno {v : Value} {l : List Int} {F : FuncId} {caps : Array Value} {p : Int → Bool} (w : World) (hv : Sl Ty.int w.cell? v l) (hp : Tells Try.prog Ty.int oneOf w F caps l p) :
    Calls Try.prog 148 #[v, .func (.func F) #[] caps] w fun e w' => e = .returned (.bool (l.any p)) ∧ Grow w w' := by
  have HI := Lib.hid (indexFunc_errno w hv hp)
  have HN := Lib.hid (idxOf_nonneg p l)
  clear hv hp
  generalize idxOf p l = i at *
  go_enter Try.func148, Try.ntmps148
  go_wp2_with (go_at_call 170; refine HI.out.mono ?_; rintro e w' ⟨rfl, hb'⟩)
  go_ret
  exact ⟨ret_bool HN.out, hb'⟩

end Go.Proofs.Ytgbhpghgohggcaa
