/- A region that draws its order and ends by a store to a cell that it loads: the loads first, the store last. -/
import Derived.Test.YtgbhpghgohggcaaApp
namespace Go.Proofs.Ytgbhpghgohggcaa
open Go.RowKit
theorem add_zero_none (b j : Nat) : ((⟨b, 0, none⟩ : Addr).add j) = ⟨b, j, none⟩ := by unfold Addr.add; split <;> simp_all
section
variable {P : Program} {ops : Array Oper} {Q : Exit → Act → World → Prop} {md : Region.Mode} {S : World → Prop} {c : Nat}
/-- what has come up had come up behind all that it waits for -/
def DownSet (md : Region.Mode) (ops : Array Oper) (listed : Array Bool) : Prop :=
  listed.size = ops.size ∧ ∀ (j : Nat) (o : Oper), ops[j]? = some o → listed.getD j true = true → ∀ e ∈ o.after, Region.binds md e = true → listed.getD e.on false = true
/-- does c wait for i, directly or through others? -/
def waitsFor (md : Region.Mode) (ops : Array Oper) : Nat → Nat → Nat → Bool
  | 0, _, _ => false
  | f + 1, i, c => ((ops[c]?).map fun o => o.after.toList.any fun e => Region.binds md e && (e.on == i || waitsFor md ops f i e.on)).getD false
theorem waits_spec {f i : Nat} {listed : Array Bool} (hc : DownSet md ops listed) (hi : listed.getD i false = false) : ∀ {c : Nat}, waitsFor md ops f i c = true → c ∉ Region.ready md ops listed ∧ (c < ops.size → listed.getD c false = false) := by
  induction f with
  | zero => intro c h; cases h
  | succ f ih =>
    intro c h
    unfold waitsFor at h
    cases ho : ops[c]? with
    | none => rw [ho] at h; cases h
    | some o =>
      rw [ho] at h
      simp only [Option.map_some, Option.getD_some, List.any_eq_true, Bool.and_eq_true, Bool.or_eq_true, beq_iff_eq] at h
      obtain ⟨e, he, hb, hor⟩ := h
      have he' : e ∈ o.after := by simpa using he
      have hun : listed.getD e.on false = false := by
        rcases hor with rfl | h2
        · exact hi
        · have h3 := ih h2
          by_cases hlt : e.on < ops.size
          · exact h3.2 hlt
          · simp [Array.getElem?_eq_none (xs := listed) (i := e.on) (by rw [hc.1]; omega)]
      refine ⟨fun hr => ?_, fun _ => ?_⟩
      · obtain ⟨_, o', ho', hall⟩ := mem_ready.1 hr
        rw [ho] at ho'
        obtain rfl := Option.some.inj ho'
        have := hall e he' hb
        rw [hun] at this
        cases this
      · by_cases ht : listed.getD c true = true
        · have := hc.2 c o ho ht e he' hb
          rw [hun] at this
          cases this
        · have hlt := (Array.getElem?_eq_some_iff.1 ho).1
          have hl : c < listed.size := by rw [hc.1]; exact hlt
          simp [hl] at ht ⊢
          exact ht
theorem DownSet.set {listed : Array Bool} (h : DownSet md ops listed) {j : Nat} (hj : j ∈ Region.ready md ops listed) : DownSet md ops (listed.setIfInBounds j true) := by
  refine ⟨by simpa using h.1, fun k o ho hk e he hb => ?_⟩
  obtain ⟨_, oj, hoj, hall⟩ := mem_ready.1 hj
  have keep : listed.getD e.on false = true → (listed.setIfInBounds j true).getD e.on false = true := by
    intro hx
    by_cases hje : j = e.on
    · rw [hje]
      by_cases hl : e.on < listed.size
      · simp [hl]
      · simp [hl] at hx
    · rw [getD_set_ne false hje]; exact hx
  by_cases hjk : j = k
  · subst hjk
    rw [hoj] at ho
    obtain rfl := Option.some.inj ho
    exact keep (hall e he hb)
  · rw [getD_set_ne true hjk] at hk
    exact keep (h.2 k o ho hk e he hb)
/-- whatever order is picked, S holds behind every operation but c -/
def wpBut (P : Program) (md : Region.Mode) (ops : Array Oper) (Q : Exit → Act → World → Prop) (S : World → Prop) (c : Nat) : Nat → Array Bool → Act → World → Prop
  | 0, listed, a, w => Region.ready md ops listed = [] ∧ Q .normal a w
  | fuel + 1, listed, a, w => (Region.ready md ops listed = [] → Q .normal a w) ∧ ∀ i ∈ Region.ready md ops listed, wpOp P ops Q i (fun a' w' => (i ≠ c → S w') ∧ wpBut P md ops Q S c fuel (listed.setIfInBounds i true) a' w') a w
theorem wpBut_any : ∀ (fuel : Nat) (listed : Array Bool) (a : Act) (w : World), wpBut P md ops Q S c fuel listed a w → wpAny P md ops Q fuel listed a w
  | 0, _, _, _, h => h
  | _ + 1, _, _, _, h => ⟨h.1, fun i hi => wpOp_mono (fun a' w' h' => wpBut_any _ _ a' w' h'.2) (h.2 i hi)⟩
theorem wpBut_first {i f : Nat} {oi : Oper} {v : Value} (hi : ops[i]? = some oi) (hsel : ∀ (j : Nat) (o : Oper) cs b, ops[j]? = some o → o.op ≠ .select cs b)
    (hQ : ∀ k a w, Q (.panic k) (a.put oi.dst v) w → Q (.panic k) a w) (hw : waitsFor md ops f i c = true) :
    ∀ (fuel : Nat) (listed : Array Bool) (a : Act) (w : World), DownSet md ops listed →
      (∀ j oj, ops[j]? = some oj → j ≠ i → listed.getD j true = false → (∀ e ∈ oj.after, Region.binds md e = true → e.on ≠ i) → oi.apart ops oj = true) →
      i ∈ Region.ready md ops listed → YieldsIf P ops S oi v a → S w →
      wpBut P md ops Q S c fuel (listed.setIfInBounds i true) (a.put oi.dst v) w → wpBut P md ops Q S c (fuel + 1) listed a w := by
  have hun : ∀ listed : Array Bool, i ∈ Region.ready md ops listed → listed.getD i false = false := by
    intro listed hr
    have h0 := (mem_ready.1 hr).1
    by_cases hl : i < listed.size
    · simp [hl] at h0 ⊢; exact h0
    · simp [hl]
  intro fuel
  induction fuel with
  | zero =>
    intro listed a w _ _ hr hy hS H
    refine ⟨fun h => (by rw [h] at hr; cases hr), fun j hj => ?_⟩
    by_cases hji : j = i
    · subst hji; exact hy.wpOp hi hS ⟨fun _ => hS, H⟩
    · have := ready_mono hj hji
      rw [H.1] at this
      cases this
  | succ fuel ih =>
    intro listed a w hcl hfree hr hy hS H
    refine ⟨fun h => (by rw [h] at hr; cases hr), fun j hj => ?_⟩
    by_cases hji : j = i
    · subst hji; exact hy.wpOp hi hS ⟨fun _ => hS, H⟩
    · have hjc : j ≠ c := fun e => (waits_spec hcl (hun _ hr) hw).1 (e ▸ hj)
      have h1 := H.2 j (ready_mono hj hji)
      obtain ⟨hjun, oj, hoj, hall⟩ := mem_ready.1 hj
      have hnot : ∀ e ∈ oj.after, Region.binds md e = true → e.on ≠ i := fun e he hb heq => by
        have h1 := hall e he hb
        rw [heq, hun _ hr] at h1
        cases h1
      have h2 := wpOp_putIf hoj (hfree j oj hoj hji hjun hnot) (fun cs b => hsel i oi cs b hi) (fun cs b => hsel j oj cs b hoj) hQ hy h1
      refine wpOp_mono (fun a' w' h3 => ⟨fun _ => h3.2.1 hjc, ih (listed.setIfInBounds j true) a' w' (hcl.set hj) (fun k ok hk hki hku hno => ?_) (ready_mono hr (Ne.symm hji)) h3.1 (h3.2.1 hjc) ?_⟩) h2
      · refine hfree k ok hk hki ?_ hno
        by_cases hjk : j = k
        · subst hjk; exact hjun
        · rw [getD_set_ne true hjk] at hku; exact hku
      · rw [Array.setIfInBounds_comm _ _ hji]
        exact h3.2.2
def shutB (md : Region.Mode) (ops : Array Oper) (listed : Array Bool) : Bool :=
  listed.size == ops.size && (List.range ops.size).all fun j => ((ops[j]?).map fun o => !(listed.getD j true) || o.after.toList.all fun e => !Region.binds md e || listed.getD e.on false).getD true
theorem shut_of {listed : Array Bool} (h : shutB md ops listed = true) : DownSet md ops listed := by
  unfold shutB at h
  simp only [Bool.and_eq_true, beq_iff_eq, List.all_eq_true, List.mem_range] at h
  refine ⟨h.1, fun j o ho hj e he hb => ?_⟩
  have h2 := h.2 j (Array.getElem?_eq_some_iff.1 ho).1
  rw [ho] at h2
  simp only [Option.map_some, Option.getD_some, hj, Bool.not_true, Bool.false_or, List.all_eq_true, Bool.or_eq_true] at h2
  rcases h2 e (by simpa using he) with h3 | h3
  · rw [hb] at h3; cases h3
  · exact h3
theorem but_take {i : Nat} (f : Nat) {oi : Oper} {v : Value} {fuel : Nat} {listed : Array Bool} {a : Act} {w : World} (hi : ops[i]? = some oi)
    (hs : Region.noSelect ops = true) (hf : Region.free md ops listed i = true) (hr : (Region.ready md ops listed).contains i = true) (hw : waitsFor md ops f i c = true) (hcl : shutB md ops listed = true)
    (hQ : ∀ k a w, Q (.panic k) (a.put oi.dst v) w → Q (.panic k) a w) (hS : S w) (hy : YieldsIf P ops S oi v a)
    (h : wpBut P md ops Q S c fuel (listed.setIfInBounds i true) (a.put oi.dst v) w) : wpBut P md ops Q S c (fuel + 1) listed a w :=
  wpBut_first hi (Region.noSelect_spec hs) hQ hw fuel listed a w (shut_of hcl) (Region.free_spec hi hf) (by simpa using hr) hy hS h
theorem but_done {listed : Array Bool} {a : Act} {w : World} {fuel : Nat} (hr : Region.ready md ops listed = []) (h : Q .normal a w) : wpBut P md ops Q S c fuel listed a w := by
  cases fuel with
  | zero => exact ⟨hr, h⟩
  | succ n => exact ⟨fun _ => h, by rw [hr]; simp⟩
theorem but_one {i : Nat} {o : Oper} {fuel : Nat} {listed : Array Bool} {a : Act} {w : World} (hr : Region.ready md ops listed = [i]) (hi : ops[i]? = some o)
    (h : ∀ K : Act → World → Prop, (∀ a' w', (i ≠ c → S w') ∧ wpBut P md ops Q S c fuel (listed.setIfInBounds i true) a' w' → K a' w') → if Region.wanted o (yielded ops a.tmps) = true then Oper.wp P o a w K Q else K (a.put o.dst undef) w) :
    wpBut P md ops Q S c (fuel + 1) listed a w := by
  refine ⟨fun h0 => absurd (h0.symm.trans hr) (by simp), fun j hj => ?_⟩
  rw [hr] at hj
  obtain rfl : j = i := by simpa using hj
  exact wpOp_step hi fun K hK => h K hK
theorem but_two {i j : Nat} {o o' : Oper} {fuel : Nat} {listed : Array Bool} {a : Act} {w : World} (hr : Region.ready md ops listed = [i, j]) (hi : ops[i]? = some o) (hj : ops[j]? = some o')
    (h : ∀ K : Act → World → Prop, (∀ a' w', (i ≠ c → S w') ∧ wpBut P md ops Q S c fuel (listed.setIfInBounds i true) a' w' → K a' w') → if Region.wanted o (yielded ops a.tmps) = true then Oper.wp P o a w K Q else K (a.put o.dst undef) w)
    (h' : ∀ K : Act → World → Prop, (∀ a' w', (j ≠ c → S w') ∧ wpBut P md ops Q S c fuel (listed.setIfInBounds j true) a' w' → K a' w') → if Region.wanted o' (yielded ops a.tmps) = true then Oper.wp P o' a w K Q else K (a.put o'.dst undef) w) :
    wpBut P md ops Q S c (fuel + 1) listed a w := by
  refine ⟨fun h0 => absurd (h0.symm.trans hr) (by simp), fun x hx => ?_⟩
  rw [hr] at hx
  have hx : x = i ∨ x = j := by simpa using hx
  rcases hx with rfl | rfl
  · exact wpOp_step hi fun K hK => h K hK
  · exact wpOp_step hj fun K hK => h' K hK
theorem but_three {i j k : Nat} {o o' o'' : Oper} {fuel : Nat} {listed : Array Bool} {a : Act} {w : World} (hr : Region.ready md ops listed = [i, j, k]) (hi : ops[i]? = some o) (hj : ops[j]? = some o') (hk : ops[k]? = some o'')
    (h : ∀ K : Act → World → Prop, (∀ a' w', (i ≠ c → S w') ∧ wpBut P md ops Q S c fuel (listed.setIfInBounds i true) a' w' → K a' w') → if Region.wanted o (yielded ops a.tmps) = true then Oper.wp P o a w K Q else K (a.put o.dst undef) w)
    (h' : ∀ K : Act → World → Prop, (∀ a' w', (j ≠ c → S w') ∧ wpBut P md ops Q S c fuel (listed.setIfInBounds j true) a' w' → K a' w') → if Region.wanted o' (yielded ops a.tmps) = true then Oper.wp P o' a w K Q else K (a.put o'.dst undef) w)
    (h'' : ∀ K : Act → World → Prop, (∀ a' w', (k ≠ c → S w') ∧ wpBut P md ops Q S c fuel (listed.setIfInBounds k true) a' w' → K a' w') → if Region.wanted o'' (yielded ops a.tmps) = true then Oper.wp P o'' a w K Q else K (a.put o''.dst undef) w) :
    wpBut P md ops Q S c (fuel + 1) listed a w := by
  refine ⟨fun h0 => absurd (h0.symm.trans hr) (by simp), fun x hx => ?_⟩
  rw [hr] at hx
  have hx : x = i ∨ x = j ∨ x = k := by simpa using hx
  rcases hx with rfl | rfl | rfl
  · exact wpOp_step hi fun K hK => h K hK
  · exact wpOp_step hj fun K hK => h' K hK
  · exact wpOp_step hk fun K hK => h'' K hK
/-- the beginning: c is the operation behind which S is not asked -/
theorem but_start (S : World → Prop) (c : Nat) {id : Nat} {a : Act} {w : World} (hm : P.follows .mixedOrders = true) (h : wpBut P .any ops Q S c ops.size (Array.replicate ops.size false) a w.drew) : (Code.region id ops true).wp P Q a w :=
  wp_region_any hm (wpBut_any _ _ _ _ h)
end
end Go.Proofs.Ytgbhpghgohggcaa
