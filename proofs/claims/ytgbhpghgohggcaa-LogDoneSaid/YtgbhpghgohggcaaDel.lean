/- Laws and walks: slices.Delete, clear, on a row of the call's own. -/
import Derived.Test.YtgbhpghgohggcaaIdx
import Derived.Deep.RegionLaw
import Derived.Lib.SliceRun
namespace Go.Proofs.Ytgbhpghgohggcaa
open Go.RowKit

theorem grownBy_trans {a b c : World} {row : Option Nat} (h : a.grownBy b row) (k : b.grownBy c row) : a.grownBy c row :=
  ⟨k.os.trans h.os, k.tape.trans h.tape, k.output.trans h.output, Nat.le_trans h.size k.size, fun i hi hne => (k.block i (Nat.lt_of_lt_of_le hi h.size) hne).trans (h.block i hi hne)⟩
theorem grownBy_of_grow {a b : World} (h : Grow a b) (row : Option Nat) : a.grownBy b row := ⟨h.os, h.tape, h.output, h.size, fun i hi _ => h.block i hi⟩

theorem grownBy_setCell (w : World) (a : Addr) (v : Value) : w.grownBy (w.setCell a v) (some a.block) :=
  ⟨rfl, rfl, rfl, by simp, fun k _ hk => Below.heap_setCell _ _ _ _ (fun e => hk (by rw [e]))⟩
/-- the same row, fewer elements -/
theorem owns_less {w : World} {base : Nat} {e : TypeId} {size g n cap m : Nat} {xs : List Value} (h : w.ownsRow base e size (.slice (some ⟨g, 0, none⟩) n cap) n xs) (hm : m ≤ n) :
    w.ownsRow base e size (.slice (some ⟨g, 0, none⟩) m cap) m (xs.take (m * size)) := by
  obtain ⟨hl, ⟨h', _⟩ | ⟨g', cap', cur, h', hb, hg, hnc, hcm, hcs, htake⟩⟩ := h
  · simp at h'
  · simp only [Value.slice.injEq, Option.some.injEq, Addr.mk.injEq, and_true, true_and] at h'
    obtain ⟨rfl, rfl⟩ := h'
    have hms : m * size ≤ n * size := Nat.mul_le_mul_right _ hm
    refine ⟨by rw [List.length_take, hl]; omega, .inr ⟨g, cap, cur, rfl, hb, hg, by omega, hcm, hcs, ?_⟩⟩
    rw [← htake, List.take_take, Nat.min_eq_left hms]
theorem setCells_owns {base : Nat} {e : TypeId} {size g n cap : Nat} : ∀ (vs : List Value) (o : Nat) (w : World) (xs : List Value), w.ownsRow base e size (.slice (some ⟨g, 0, none⟩) n cap) n xs → o + vs.length ≤ xs.length →
    (w.setCells g o vs).ownsRow base e size (.slice (some ⟨g, 0, none⟩) n cap) n (xs.take o ++ vs ++ xs.drop (o + vs.length)) ∧ w.grownBy (w.setCells g o vs) (some g) := by
  intro vs
  induction vs with
  | nil => intro o w xs h _; simp only [List.append_nil, List.length_nil, Nat.add_zero, List.take_append_drop]; exact ⟨h, ⟨rfl, rfl, rfl, Nat.le_refl _, fun _ _ _ => rfl⟩⟩
  | cons v vs ih =>
    intro o w xs h hl
    obtain ⟨h1, h2⟩ := h.stored o v
    simp only [List.length_cons] at hl
    obtain ⟨h3, h4⟩ := ih (o + 1) _ _ h1 (by simp; omega)
    refine ⟨?_, grownBy_trans h2 h4⟩
    have : (xs.set o v).take (o + 1) ++ vs ++ (xs.set o v).drop (o + 1 + vs.length) = xs.take o ++ v :: vs ++ xs.drop (o + (vs.length + 1)) := by
      have hs : (xs.take o ++ [xs[o]]).set o v = xs.take o ++ [v] := by
        rw [List.set_append, if_neg (by simp; omega)]; simp [Nat.min_eq_left (by omega : o ≤ xs.length)]
      rw [List.drop_set_of_lt (by omega), List.take_set, List.take_succ_eq_append_getElem (by omega : o < xs.length), hs]
      simp [Nat.add_comm, Nat.add_left_comm]
    rw [this] at h3
    exact h3
/-- clear of what lies behind i elements -/
theorem clear_run {P : Program} {t e : TypeId} {size bytes : Nat} (hE : EI P t e size bytes) {w : World} (ty : TypeId)
    {base g n cap : Nat} {xs : List Value} (hown : w.ownsRow base e size (.slice (some ⟨g, 0, none⟩) n cap) n xs) (i m c : Nat) (ao : Option Addr) (him : i + m ≤ cap) (hao : 0 < m → ao = some ⟨g, i * size, none⟩) (hin : i ≤ n) :
    ∃ w', (Builtin.clear_ #[t] ty #[.slice ao m c]).run P w = .ok (.tuple #[]) w' ∧ w'.ownsRow base e size (.slice (some ⟨g, 0, none⟩) i cap) i (xs.take (i * size)) ∧ w.grownBy w' (some g) := by
  obtain ⟨ti, z, hi, hz, h2, h3, h4, h5, h6⟩ := hE.hi
  have hv : ∀ w, (zeroValue e).run P w = .ok z w := fun w => by simp [zeroValue, typeInfo, hi, hz]
  rcases Nat.eq_zero_or_pos m with rfl | hm
  · have hr : (Builtin.clear_ #[t] ty #[.slice ao 0 c]).run P w = .ok (.tuple #[]) w := by
      cases ao <;> simp [Builtin.clear_, run_underlying hE.ht]
    exact ⟨w, hr, owns_less hown hin, ⟨rfl, rfl, rfl, Nat.le_refl _, fun _ _ _ => rfl⟩⟩
  · obtain rfl := hao hm
    obtain ⟨hl, ⟨h', _⟩ | ⟨g', cap', cur, h', hb, hg, hnc, hcm, hcs, htake⟩⟩ := hown
    · simp at h'
    simp only [Value.slice.injEq, Option.some.injEq, Addr.mk.injEq, and_true, true_and] at h'
    obtain ⟨rfl, rfl⟩ := h'
    have hlen : (Builtin.zeroCells z.cells m).toList.length = m * size := by rw [Array.length_toList, size_zeroCells, h4]
    have hfit : i * size + m * size ≤ cap * size := by rw [← Nat.add_mul]; exact Nat.mul_le_mul_right _ him
    have hone : ∀ u ∈ (Builtin.zeroCells z.cells m).toList, u.oneCell' = true := by
      intro u hu
      have hu' := Array.mem_toList_iff.1 hu
      simp only [Builtin.zeroCells, Array.mem_map, Array.mem_range] at hu'
      obtain ⟨j, hj, rfl⟩ := hu'
      have : j % z.cells.size < z.cells.size := Nat.mod_lt _ (by omega)
      rw [getElem!_pos z.cells _ this]
      exact h6 _ (Array.getElem_mem _)
    have hst := run_storeCells_at P g (i * size) e (Builtin.zeroCells z.cells m).toList 0 cur w hg (by omega) hone
    simp only [Nat.add_zero] at hst
    obtain ⟨m', rfl⟩ : ∃ m', m = m' + 1 := ⟨m - 1, by omega⟩
    have hr : (Builtin.clear_ #[t] ty #[.slice (some ⟨g, i * size, none⟩) (m' + 1) c]).run P w = .ok (.tuple #[]) (w.setRow g (cur.toList.take (i * size) ++ (Builtin.zeroCells z.cells (m' + 1)).toList ++ cur.toList.drop (i * size + (Builtin.zeroCells z.cells (m' + 1)).toList.length)).toArray) := by
      simp [Builtin.clear_, run_underlying hE.ht, hv, hst]
    refine ⟨_, hr, ⟨?_, .inr ⟨g, cap, _, rfl, hb, setRow_heap w g cur _ e _ hg, by omega, hcm, ?_, ?_⟩⟩, ⟨rfl, rfl, rfl, by simp, fun k _ hk => setRow_other w g k _ (fun e => hk (by simp [e]))⟩⟩
    · have hms : i * size ≤ n * size := Nat.mul_le_mul_right _ hin
      rw [List.length_take, hl]; omega
    · simp only [List.size_toArray, List.length_append, List.length_take, List.length_drop, Array.length_toList, hlen]; omega
    · have hms : i * size ≤ n * size := Nat.mul_le_mul_right _ hin
      rw [← htake, List.take_take, Nat.min_eq_left hms]
      rw [List.append_assoc, List.take_append_of_le_length (by simp; omega), List.take_take, Nat.min_self]
/-- append(s[:i], s[j:]...) on a row of the call's own, as one step of a region that draws -/
theorem step_append_cut {P : Program} {t e : TypeId} {size bytes : Nat} (hE : EI P t e size bytes) {ops : Array Oper} {o : Oper} {a : Act} {w : World} {K : Act → World → Prop} {Q : Exit → Act → World → Prop} {E : Prop}
    (hgd : o.guard = none) (s x : Operand) (hop : o.op = Op.call { callee := Callee.builtin Builtin.append, args := #[s, x], argTypes := #[t, t] })
    {base g n cap : Nat} (i j : Nat) (r : Nat) (ad : Option Addr) (m c : Nat) {xs : List Value} (hown : w.ownsRow base e size (.slice (some ⟨g, 0, none⟩) n cap) n xs) (hij : i ≤ j) (hjn : j ≤ n) (h1 : ∀ u ∈ xs, u.oneCell' = true)
    (hs : a.eval s = .slice (some ⟨g, 0, none⟩) i cap) (hx : a.eval x = .slice ad m c) (hr : r = i + (n - j)) (hm : m = n - j) (had : ad = some ⟨g, j * size, none⟩ ∨ (∃ b, ad = some b) ∧ n = j)
    (hK : ∀ w', w'.ownsRow base e size (.slice (some ⟨g, 0, none⟩) r cap) r (xs.take (i * size) ++ xs.drop (j * size)) → w.grownBy w' (some g) → K (a.put o.dst (.slice (some ⟨g, 0, none⟩) r cap)) w') :
    if Region.wanted o (yielded ops a.tmps) = true then Oper.wp P o a w K Q else E := by
  obtain ⟨ti, z, hi, hz, h2, h3, h4, h5, h6⟩ := hE.hi
  subst hm
  subst hr
  obtain ⟨hl, ⟨h', _⟩ | ⟨g', cap', cur, h', hb, hg, hnc, hcm, hcs, htake⟩⟩ := id hown
  · simp at h'
  simp only [Value.slice.injEq, Option.some.injEq, Addr.mk.injEq, and_true, true_and] at h'
  obtain ⟨rfl, rfl⟩ := h'
  have e1 : n * size = j * size + (n - j) * size := by rw [← Nat.add_mul]; congr 1; omega
  have e2 : i * size ≤ j * size := Nat.mul_le_mul_right _ hij
  have hnl : (xs.drop (j * size)).length = (n - j) * size := by rw [List.length_drop, hl]; omega
  obtain ⟨b, rfl⟩ : ∃ b, ad = some b := by rcases had with h | ⟨h, _⟩; exact ⟨_, h⟩; exact h
  have hnews : ∀ k u, (xs.drop (j * size))[k]? = some u → w.cell? (b.add k) = some u := by
    intro k u hu
    rcases had with h | ⟨_, h⟩
    · obtain rfl := Option.some.inj h
      rw [List.getElem?_drop] at hu
      have := hown.cells (g := g) rfl _ u hu
      rw [Addr.add_lit, Nat.zero_add] at this
      rw [Addr.add_lit]; exact this
    · rw [List.drop_of_length_le (by rw [hl, h]; exact Nat.le_refl _)] at hu; simp at hu
  obtain ⟨so, sg⟩ := setCells_owns (xs.drop (j * size)) (0 + i * size) w xs hown (by rw [hnl, hl]; omega)
  refine step_append_room hgd s x t hop e ti size hE.ht hi h2 g 0 i cap hs b (n - j) c (xs.drop (j * size)) hx hnl hnews (fun u hu => h1 u (List.mem_of_mem_drop hu)) (by omega) (fun k hk => ?_) (hK _ ?_ sg)
  · rw [hnl] at hk
    refine ⟨?_, hown.frozenAt _⟩
    rw [Nat.zero_add, hown.cellAt _ (by omega), List.getElem?_eq_getElem (by rw [hl]; omega)]; rfl
  · have h := owns_less so (show i + (n - j) ≤ n by omega)
    rw [Nat.zero_add] at h
    have e3 : (i + (n - j)) * size = (xs.take (i * size) ++ xs.drop (j * size)).length := by
      rw [List.length_append, hnl, List.length_take, hl, Nat.add_mul]; omega
    rw [e3, List.take_left] at h
    rw [Nat.zero_add]
    exact h

set_option maxRecDepth 100000 in
set_option maxHeartbeats 1000000 in
theorem delete_rd {w : World} {base g n cap i : Nat} {xs : List Value} (hown : w.ownsRow base 45 2 (.slice (some ⟨g, 0, none⟩) n cap) n xs) (hi : i < n) (h1 : ∀ u ∈ xs, u.oneCell' = true) :
    Calls Try.prog 123 #[.slice (some ⟨g, 0, none⟩) n cap, .int .i64 i, .int .i64 ((i : Int) + 1)] w fun e w' => e = .returned (.slice (some ⟨g, 0, none⟩) (n - 1) cap) ∧ w'.ownsRow base 45 2 (.slice (some ⟨g, 0, none⟩) (n - 1) cap) (n - 1) (xs.take (i * 2) ++ xs.drop ((i + 1) * 2)) ∧ w.grownBy w' (some g) := by
  obtain ⟨hl, ⟨h', _⟩ | ⟨g', cap', cur, h', hb, hg, hnc, hcm, hcs, htake⟩⟩ := id hown
  · simp at h'
  simp only [Value.slice.injEq, Option.some.injEq, Addr.mk.injEq, and_true, true_and] at h'
  obtain ⟨rfl, rfl⟩ := h'
  have hA : ∃ A : Addr, (if cap = i + 1 then some (⟨g, 0, none⟩ : Addr) else some ⟨g, (i + 1) * 2, none⟩) = some A ∧ Hid (some A = some (⟨g, (i + 1) * 2, none⟩ : Addr) ∨ (∃ b, some A = some b) ∧ n = i + 1) := by
    by_cases h : cap = i + 1
    · exact ⟨⟨g, 0, none⟩, by simp [h], .inr ⟨⟨_, rfl⟩, by omega⟩⟩
    · exact ⟨_, by simp only [h, if_false], .inl rfl⟩
  obtain ⟨A, hA, hA2⟩ := hA
  have HO := Lib.hid hown
  have H1 := Lib.hid h1
  have hic : i ≤ cap := by omega
  have hp0 : (0 : Int) ≤ (i : Int) + 1 := by omega
  have hp1 : (i : Int) + 1 ≤ (n : Int) := by omega
  have hp2 : ((i : Int) + 1).toNat = i + 1 := by omega
  have hne : ((i : Int) == (i : Int) + 1) = false := by simp; omega
  have hcm' : cap ≤ 9223372036854775807 := by unfold maxLen at hcm; omega
  have hn1 : i + (n - (i + 1)) = n - 1 := by omega
  have hn2 : ((n - 1 : Nat) : Int) = (n : Int) - 1 := by omega
  clear hown hg htake hcs hb hl hcm h1
  go_enter Try.func123, Try.ntmps123
  go_wp2_with fail
  go_region_law (refine step_append_cut ei_rd rfl (.tmp 22) (.tmp 25) rfl i (i + 1) (n - 1) (some A) (n - (i + 1)) (cap - (i + 1)) (by exact World.ownsRow.drew HO.out) (by omega) (by omega) H1.out (by simp [Act.eval, Act.put]) (by simp [Act.eval, Act.put, hA]) hn1.symm rfl hA2.out ?_; intro w1 HO1 HG1)
  have HO1' := Lib.hid HO1
  have HG1' := Lib.hid HG1
  clear HO1 HG1 HO hA hA2 hn1
  have hlt1 : n - 1 < cap := by omega
  have hn3 : (n : Int) - 1 ≤ (n : Int) := by omega
  have hn4 : ((n : Int) - 1).toNat = n - 1 := by omega
  have hn5 : n - (n - 1) = 1 := by omega
  obtain ⟨w2, hcl, HO2, HG2⟩ := clear_run ei_rd 0 HO1'.out (n - 1) 1 (cap - (n - 1)) (some ⟨g, (n - 1) * 2, none⟩) (by omega) (fun _ => rfl) (Nat.le_refl _)
  have HCL := Lib.hid hcl
  have HO2' := Lib.hid HO2
  have HG2' := Lib.hid HG2
  clear hcl HO2 HG2
  go_wp2_with fail
  rw [HCL.out]
  go_wp2
  go_ret
  refine ⟨rfl, ?_, grownBy_trans (grownBy_of_grow ((Grow.refl w).drew) _) (grownBy_trans HG1'.out HG2'.out)⟩
  have h := HO2'.out
  rw [List.take_of_length_le (by rw [HO1'.out.1]; exact Nat.le_refl _)] at h
  exact h

set_option maxRecDepth 100000 in
set_option maxHeartbeats 1000000 in
theorem delete_opn {w : World} {base g n cap i : Nat} {xs : List Value} (hown : w.ownsRow base 136 4 (.slice (some ⟨g, 0, none⟩) n cap) n xs) (hi : i < n) (h1 : ∀ u ∈ xs, u.oneCell' = true) :
    Calls Try.prog 159 #[.slice (some ⟨g, 0, none⟩) n cap, .int .i64 i, .int .i64 ((i : Int) + 1)] w fun e w' => e = .returned (.slice (some ⟨g, 0, none⟩) (n - 1) cap) ∧ w'.ownsRow base 136 4 (.slice (some ⟨g, 0, none⟩) (n - 1) cap) (n - 1) (xs.take (i * 4) ++ xs.drop ((i + 1) * 4)) ∧ w.grownBy w' (some g) := by
  obtain ⟨hl, ⟨h', _⟩ | ⟨g', cap', cur, h', hb, hg, hnc, hcm, hcs, htake⟩⟩ := id hown
  · simp at h'
  simp only [Value.slice.injEq, Option.some.injEq, Addr.mk.injEq, and_true, true_and] at h'
  obtain ⟨rfl, rfl⟩ := h'
  have hA : ∃ A : Addr, (if cap = i + 1 then some (⟨g, 0, none⟩ : Addr) else some ⟨g, (i + 1) * 4, none⟩) = some A ∧ Hid (some A = some (⟨g, (i + 1) * 4, none⟩ : Addr) ∨ (∃ b, some A = some b) ∧ n = i + 1) := by
    by_cases h : cap = i + 1
    · exact ⟨⟨g, 0, none⟩, by simp [h], .inr ⟨⟨_, rfl⟩, by omega⟩⟩
    · exact ⟨_, by simp only [h, if_false], .inl rfl⟩
  obtain ⟨A, hA, hA2⟩ := hA
  have HO := Lib.hid hown
  have H1 := Lib.hid h1
  have hic : i ≤ cap := by omega
  have hp0 : (0 : Int) ≤ (i : Int) + 1 := by omega
  have hp1 : (i : Int) + 1 ≤ (n : Int) := by omega
  have hp2 : ((i : Int) + 1).toNat = i + 1 := by omega
  have hne : ((i : Int) == (i : Int) + 1) = false := by simp; omega
  have hcm' : cap ≤ 9223372036854775807 := by unfold maxLen at hcm; omega
  have hn1 : i + (n - (i + 1)) = n - 1 := by omega
  have hn2 : ((n - 1 : Nat) : Int) = (n : Int) - 1 := by omega
  clear hown hg htake hcs hb hl hcm h1
  go_enter Try.func159, Try.ntmps159
  go_wp2_with fail
  go_region_law (refine step_append_cut ei_opn rfl (.tmp 22) (.tmp 25) rfl i (i + 1) (n - 1) (some A) (n - (i + 1)) (cap - (i + 1)) (by exact World.ownsRow.drew HO.out) (by omega) (by omega) H1.out (by simp [Act.eval, Act.put]) (by simp [Act.eval, Act.put, hA]) hn1.symm rfl hA2.out ?_; intro w1 HO1 HG1)
  have HO1' := Lib.hid HO1
  have HG1' := Lib.hid HG1
  clear HO1 HG1 HO hA hA2 hn1
  have hlt1 : n - 1 < cap := by omega
  have hn3 : (n : Int) - 1 ≤ (n : Int) := by omega
  have hn4 : ((n : Int) - 1).toNat = n - 1 := by omega
  have hn5 : n - (n - 1) = 1 := by omega
  obtain ⟨w2, hcl, HO2, HG2⟩ := clear_run ei_opn 0 HO1'.out (n - 1) 1 (cap - (n - 1)) (some ⟨g, (n - 1) * 4, none⟩) (by omega) (fun _ => rfl) (Nat.le_refl _)
  have HCL := Lib.hid hcl
  have HO2' := Lib.hid HO2
  have HG2' := Lib.hid HG2
  clear hcl HO2 HG2
  go_wp2_with fail
  rw [HCL.out]
  go_wp2
  go_ret
  refine ⟨rfl, ?_, grownBy_trans (grownBy_of_grow ((Grow.refl w).drew) _) (grownBy_trans HG1'.out HG2'.out)⟩
  have h := HO2'.out
  rw [List.take_of_length_le (by rw [HO1'.out.1]; exact Nat.le_refl _)] at h
  exact h

set_option maxRecDepth 100000 in
set_option maxHeartbeats 1000000 in
theorem delete_bts {w : World} {base g n cap i : Nat} {xs : List Value} (hown : w.ownsRow base 69 1 (.slice (some ⟨g, 0, none⟩) n cap) n xs) (hi : i < n) (h1 : ∀ u ∈ xs, u.oneCell' = true) :
    Calls Try.prog 132 #[.slice (some ⟨g, 0, none⟩) n cap, .int .i64 i, .int .i64 ((i : Int) + 1)] w fun e w' => e = .returned (.slice (some ⟨g, 0, none⟩) (n - 1) cap) ∧ w'.ownsRow base 69 1 (.slice (some ⟨g, 0, none⟩) (n - 1) cap) (n - 1) (xs.take (i * 1) ++ xs.drop ((i + 1) * 1)) ∧ w.grownBy w' (some g) := by
  obtain ⟨hl, ⟨h', _⟩ | ⟨g', cap', cur, h', hb, hg, hnc, hcm, hcs, htake⟩⟩ := id hown
  · simp at h'
  simp only [Value.slice.injEq, Option.some.injEq, Addr.mk.injEq, and_true, true_and] at h'
  obtain ⟨rfl, rfl⟩ := h'
  have hA : ∃ A : Addr, (if cap = i + 1 then some (⟨g, 0, none⟩ : Addr) else some ⟨g, (i + 1) * 1, none⟩) = some A ∧ Hid (some A = some (⟨g, (i + 1) * 1, none⟩ : Addr) ∨ (∃ b, some A = some b) ∧ n = i + 1) := by
    by_cases h : cap = i + 1
    · exact ⟨⟨g, 0, none⟩, by simp [h], .inr ⟨⟨_, rfl⟩, by omega⟩⟩
    · exact ⟨_, by simp only [h, if_false], .inl rfl⟩
  obtain ⟨A, hA, hA2⟩ := hA
  have HO := Lib.hid hown
  simp only [Nat.mul_one] at hA
  have H1 := Lib.hid h1
  have hic : i ≤ cap := by omega
  have hp0 : (0 : Int) ≤ (i : Int) + 1 := by omega
  have hp1 : (i : Int) + 1 ≤ (n : Int) := by omega
  have hp2 : ((i : Int) + 1).toNat = i + 1 := by omega
  have hne : ((i : Int) == (i : Int) + 1) = false := by simp; omega
  have hcm' : cap ≤ 9223372036854775807 := by unfold maxLen at hcm; omega
  have hn1 : i + (n - (i + 1)) = n - 1 := by omega
  have hn2 : ((n - 1 : Nat) : Int) = (n : Int) - 1 := by omega
  clear hown hg htake hcs hb hl hcm h1
  go_enter Try.func132, Try.ntmps132
  go_wp2_with fail
  go_region_law (refine step_append_cut ei_bts rfl (.tmp 22) (.tmp 25) rfl i (i + 1) (n - 1) (some A) (n - (i + 1)) (cap - (i + 1)) (by exact World.ownsRow.drew HO.out) (by omega) (by omega) H1.out (by simp [Act.eval, Act.put]) (by simp [Act.eval, Act.put, hA]) hn1.symm rfl hA2.out ?_; intro w1 HO1 HG1)
  have HO1' := Lib.hid HO1
  have HG1' := Lib.hid HG1
  clear HO1 HG1 HO hA hA2 hn1
  have hlt1 : n - 1 < cap := by omega
  have hn3 : (n : Int) - 1 ≤ (n : Int) := by omega
  have hn4 : ((n : Int) - 1).toNat = n - 1 := by omega
  have hn5 : n - (n - 1) = 1 := by omega
  obtain ⟨w2, hcl, HO2, HG2⟩ := clear_run ei_bts 0 HO1'.out (n - 1) 1 (cap - (n - 1)) (some ⟨g, (n - 1) * 1, none⟩) (by omega) (fun _ => rfl) (Nat.le_refl _)
  have HCL := Lib.hid hcl
  have HO2' := Lib.hid HO2
  have HG2' := Lib.hid HG2
  clear hcl HO2 HG2
  go_wp2_with fail
  rw [show (Builtin.clear_ _ _ #[Value.slice (some (⟨g, n - 1, none⟩ : Addr)) 1 _]).run _ _ = _ from by simpa using HCL.out]
  go_wp2
  go_ret
  refine ⟨rfl, ?_, grownBy_trans (grownBy_of_grow ((Grow.refl w).drew) _) (grownBy_trans HG1'.out HG2'.out)⟩
  have h := HO2'.out
  rw [List.take_of_length_le (by rw [HO1'.out.1]; exact Nat.le_refl _)] at h
  exact h

end Go.Proofs.Ytgbhpghgohggcaa
