/- Plain: what right parts are. -/
import Derived.Test.YtgbhpghgohggcaaP5
namespace Go.Proofs.Ytgbhpghgohggcaa
theorem wrongGo_ok {h : Int} : ∀ {l : List Pt} {had : List (Int × Int)}, wrongGo h had l = 0 → (∀ p ∈ l, badPt p h = false) ∧ (∀ p ∈ l, (p.h, p.k) ∉ had) ∧ (l.map fun p => (p.h, p.k)).Nodup
  | [], _, _ => by simp
  | p :: l, had, e => by
    unfold wrongGo at e
    split at e
    · cases e
    · rename_i hb
      split at e
      · cases e
      · rename_i hn
        obtain ⟨h1, h2, h3⟩ := wrongGo_ok e
        refine ⟨fun q hq => ?_, fun q hq => ?_, ?_⟩
        · rcases List.mem_cons.1 hq with rfl | hq
          · simpa using hb
          · exact h1 q hq
        · rcases List.mem_cons.1 hq with rfl | hq
          · exact hn
          · exact fun hm => h2 q hq (List.mem_cons_of_mem _ hm)
        · rw [List.map_cons, List.nodup_cons]
          refine ⟨fun hm => ?_, h3⟩
          obtain ⟨q, hq, he⟩ := List.mem_map.1 hm
          exact h2 q hq (by rw [he]; exact List.mem_cons_self)
theorem wrong_ok {l : List Pt} {h : Int} (e : wrongE l h = 0) : 0 < l.length ∧ l.length ≤ 4 ∧ (∀ p ∈ l, 0 ≤ p.h ∧ p.h < h ∧ 0 ≤ p.k ∧ p.k < 4 ∧ p.n ≤ 1048576 ∧ -1048576 ≤ p.n) ∧ (l.map fun p => (p.h, p.k)).Nodup := by
  unfold wrongE at e
  split at e
  · cases e
  · rename_i hl
    obtain ⟨h1, _, h3⟩ := wrongGo_ok e
    refine ⟨by omega, by omega, fun p hp => ?_, h3⟩
    have := of_decide_eq_false (h1 p hp)
    omega
theorem wrong_keys {l : List Pt} {h : Int} (e : wrongE l h = 0) : KeysOk l := fun p hp => by
  have := (wrong_ok e).2.2.1 p hp
  exact ⟨this.2.2.1, this.2.2.2.1⟩
end Go.Proofs.Ytgbhpghgohggcaa
