/- Plain: LocksOne's law. -/
import Derived.Test.YtgbhpghgohggcaaS1
import Derived.Test.YtgbhpghgohggcaaK1
namespace Go.Proofs.Ytgbhpghgohggcaa
def keysOf (l : List Rd) : List Int := l.flatMap fun r => r.parts.map (·.k)
theorem keysOf_cons (x : Rd) (l : List Rd) : keysOf (x :: l) = x.parts.map (·.k) ++ keysOf l := by simp [keysOf]
theorem keysOf_snoc (l : List Rd) (x : Rd) : keysOf (l ++ [x]) = keysOf l ++ x.parts.map (·.k) := by simp [keysOf]
theorem hasKey_mem {key : Int} {x : Rd} : hasKey key x = true ↔ key ∈ x.parts.map (·.k) := by
  unfold hasKey
  rw [List.any_eq_true, List.mem_map]
  constructor
  · rintro ⟨p, hp, h⟩; exact ⟨p, hp, by simpa using h⟩
  · rintro ⟨p, hp, h⟩; exact ⟨p, hp, by simpa using h⟩
theorem who_keys {key : Int} : ∀ {l : List Rd}, (∀ x ∈ l, 0 ≤ x.deed) → (whoE l key < 0 ↔ key ∉ keysOf l)
  | [], _ => by simp [whoE, keysOf]
  | x :: l, hp => by
    have ih := who_keys (l := l) (key := key) fun y hy => hp y (List.mem_cons_of_mem _ hy)
    have hx := hp x List.mem_cons_self
    rw [who_cons, keysOf_cons, List.mem_append, ← hasKey_mem]
    by_cases h : hasKey key x = true
    · simp [h]; exact hx
    · simp only [h, if_false, false_or, Bool.false_eq_true]; exact ih
theorem keysOf_erase (p : Rd → Bool) : ∀ l : List Rd, (keysOf (l.eraseP p)).Sublist (keysOf l)
  | [] => List.Sublist.refl _
  | x :: l => by
    by_cases h : p x = true
    · rw [List.eraseP_cons_of_pos h, keysOf_cons]; exact List.sublist_append_right _ _
    · rw [List.eraseP_cons_of_neg h, keysOf_cons, keysOf_cons]; exact (keysOf_erase p l).append_left _
theorem who_deed {key : Int} : ∀ {l : List Rd}, (keysOf l).Nodup → ∀ r ∈ l, key ∈ r.parts.map (·.k) → whoE l key = r.deed
  | x :: l, hn, r, hr, hk => by
    rw [keysOf_cons, List.nodup_append] at hn
    obtain ⟨h1, h2, h3⟩ := hn
    rw [who_cons]
    rcases List.mem_cons.1 hr with rfl | hr
    · rw [if_pos (hasKey_mem.2 hk)]
    · have hk2 : key ∈ keysOf l := List.mem_flatMap.2 ⟨r, hr, hk⟩
      rw [if_neg (fun h => h3 _ (hasKey_mem.1 h) _ hk2 rfl)]
      exact who_deed h2 r hr hk
/-- deeds that a house is ready for are apart -/
structure Calm (h : Hs) : Prop where
  made : Made h
  fine : Fine h.ready
  apart : (keysOf h.ready).Nodup
theorem calm_zero : Calm ⟨[], ⟨0, 0, 0, 0⟩, [], []⟩ := ⟨rfl, ⟨by simp, by simp⟩, by simp [keysOf]⟩
theorem nodup_keys {l : List Pt} {h : Int} (hn : (l.map fun p => (p.h, p.k)).Nodup) (ha : ∀ p ∈ l, p.h = h) : (l.map (·.k)).Nodup := by
  have e : (l.map fun p => (p.h, p.k)) = (l.map (·.k)).map fun k => (h, k) := by
    rw [List.map_map]
    exact List.map_congr_left fun p hp => by simp [ha p hp]
  rw [e] at hn
  refine List.Pairwise.of_map _ (fun a b hab he => hab (by rw [he])) hn
theorem free_none {l : List Rd} (hp : ∀ x ∈ l, 0 ≤ x.deed) {ps : List Pt} (h : freeE l ps = true) : ∀ p ∈ ps, p.k ∉ keysOf l := by
  rw [free_all, List.all_eq_true] at h
  intro p hm
  exact (who_keys hp).1 (by simpa using h p hm)
/-- right messages, in parts -/
structure RightM (m : Ms) : Prop where
  kind : 1 ≤ m.kind ∧ m.kind ≤ 7
  deed : 0 ≤ m.deed ∧ m.deed ≤ 1343
  house : 0 ≤ m.house ∧ m.house ≤ 2
  none : m.kind ≠ 1 → m.parts = []
  parts : m.kind = 1 → wrongE m.parts 3 = 0 ∧ ∀ p ∈ m.parts, p.h = m.house
theorem wrongE_pos (l : List Pt) (h : Int) : 0 ≤ wrongE l h := by
  have : ∀ (l : List Pt) had, 0 ≤ wrongGo h had l := by
    intro l
    induction l with
    | nil => intro had; simp [wrongGo]
    | cons p l ih => intro had; unfold wrongGo; split; omega; split; omega; exact ih _
  unfold wrongE
  split
  · omega
  · exact this _ _
theorem right_m {m : Ms} : wrongM m = 0 ↔ RightM m := by
  unfold wrongM
  constructor
  · intro h
    split at h
    · cases h
    split at h
    · cases h
    split at h
    · split at h
      · exact ⟨by omega, by omega, by omega, fun _ => ‹_›, fun _ => by omega⟩
      · cases h
    · split at h
      · split at h
        · rename_i h1 h2
          exact ⟨by omega, by omega, by omega, fun _ => by omega, fun _ => ⟨h1, fun p hp => by simpa using List.all_eq_true.1 h2 p hp⟩⟩
        · cases h
      · rename_i h1; exact absurd h h1
  · rintro ⟨h1, h2, h3, h4, h5⟩
    rw [if_neg (by omega), if_neg (by omega)]
    split
    · rw [if_pos (h4 (by omega))]
    · obtain ⟨h6, h7⟩ := h5 (by omega)
      rw [if_pos h6, if_pos (List.all_eq_true.2 fun p hp => by simpa using h7 p hp)]
theorem RightM.keys {m : Ms} (h : RightM m) : KeysOk m.parts := by
  by_cases hk : m.kind = 1
  · exact wrong_keys (h.parts hk).1
  · rw [h.none hk]; intro p hp; simp at hp
theorem calm_note {h : Hs} (hc : Calm h) {r : Rc} (hr : 0 ≤ r.deed) (h1 : r.kind = 1 → (r.parts.map (·.k)).Nodup ∧ ∀ p ∈ r.parts, p.k ∉ keysOf h.ready) : Calm (noteE h r) := by
  have e := note_ready hc.made r
  refine ⟨note_made _ _, by rw [e]; exact fine_step hc.fine hr, ?_⟩
  rw [e, step_ready]
  split
  · split
    · exact hc.apart.sublist (keysOf_erase _ _)
    · exact hc.apart
  · split
    · rename_i hk
      obtain ⟨h2, h3⟩ := h1 hk
      rw [keysOf_snoc, List.nodup_append]
      refine ⟨hc.apart, h2, fun a ha b hb e => ?_⟩
      obtain ⟨p, hp, rfl⟩ := List.mem_map.1 hb
      exact h3 p hp (e ▸ ha)
    · exact hc.apart
theorem vote_free {h : Hs} {d : Int} {ps : List Pt} (hv : voteE h d ps = 0) (hr : readyE h.ready d = false) : freeE h.ready ps = true := by
  unfold voteE at hv
  split at hv
  · cases hv
  · rw [if_neg (by simp [hr])] at hv
    split at hv
    · cases hv
    · rename_i h2; simpa using h2
theorem calm_hear {h : Hs} (hc : Calm h) {m : Ms} (hm : RightM m) : Calm (hearH h m) := by
  unfold hearH
  split
  · rename_i hk
    obtain ⟨hw, hh⟩ := hm.parts hk
    split
    · rename_i hv
      exact calm_note hc hm.deed.1 fun _ => ⟨nodup_keys (wrong_ok hw).2.2.2 hh, free_none hc.fine.pos (vote_free hv.1 hv.2)⟩
    · exact hc
  · split
    · split
      · exact calm_note hc hm.deed.1 (by simp)
      · exact hc
    · split
      · split
        · exact calm_note hc hm.deed.1 (by simp)
        · exact hc
      · exact hc
/-- how often a key occurs -/
def cntKey (key : Int) (l : List Rd) : Nat := (keysOf l).count key
theorem cnt_le {h : Hs} (hc : Calm h) (key : Int) : cntKey key h.ready ≤ 1 := List.nodup_iff_count.1 hc.apart key
theorem cnt_free {h : Hs} (hc : Calm h) (key : Int) : decide (cntKey key h.ready = 1) = !freeE h.ready [⟨0, key, 0⟩] := by
  have h1 := cnt_le hc key
  have h2 : 0 < cntKey key h.ready ↔ key ∈ keysOf h.ready := List.count_pos_iff
  have h3 := who_keys (key := key) hc.fine.pos
  rw [free_all]
  simp only [List.all_cons, List.all_nil, Bool.and_true]
  rw [Bool.eq_iff_iff]
  simp only [decide_eq_true_eq, Bool.not_eq_true', decide_eq_false_iff_not]
  rw [h3, Decidable.not_not, ← h2]
  omega
end Go.Proofs.Ytgbhpghgohggcaa
