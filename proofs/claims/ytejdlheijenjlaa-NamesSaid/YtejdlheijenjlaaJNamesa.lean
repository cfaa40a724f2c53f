/- The parts that Names is proved of, joined: Base, NamesW. No condition beside those that each theorem names. -/
import Derived.WalkKit
import Derived.WalkSpells
import Derived.WalkLawsBesides
import Derived.BigQuiet
import Derived.StillTailTactics
import Derived.Deep.RegionWith
import Derived.Deep.RegionLaw
import Derived.Lib.Hide
import Derived.Test.YtejdlheijenjlaaRows
import Derived.Deep.RegionHeld3
import Derived.Deep.DeepFit
import Derived.Deep.DeepCutAuto
import Derived.Deep.DeepMust
/- Plain readings of Go values: cells of memory as lists of parts, records and so on. No condition; nothing of the program is in sight. -/
namespace Go.Proofs.Ytejdlheijenjlaa
open Go.RowKit

/-- what a memory holds -/
abbrev CM := Addr → Option Value
/-- c' holds all that c holds -/
def Sub (c c' : CM) : Prop := ∀ a v, c a = some v → c' a = some v
theorem Sub.refl (c : CM) : Sub c c := fun _ _ h => h
theorem Sub.trans {a b c : CM} (h : Sub a b) (k : Sub b c) : Sub a c := fun x v e => k x v (h x v e)
theorem Sub.below {w w' : World} (h : Below w.heap.size w w') : Sub w.cell? w'.cell? := fun a v e => by
  rw [h.cell (World.block_lt_of_cell? w a e)]; exact e
/-- w' is w with more blocks; what was there is as it was -/
abbrev Grow (w w' : World) : Prop := Below w.heap.size w w'
theorem Grow.refl (w : World) : Grow w w := Below.refl _ _
theorem Grow.trans {a b c : World} (h : Grow a b) (k : Grow b c) : Grow a c := Below.trans h (k.mono h.size)
theorem Grow.alloc {a w : World} (h : Grow a w) (o : Obj) : Grow a (w.alloc o) := Below.alloc h h.size o
theorem Grow.drew {a w : World} (h : Grow a w) : Grow a w.drew := Below.drew h
theorem Grow.drewN {a w : World} (h : Grow a w) (n : Nat) : Grow a (w.drewN n) := below_drewN h n
theorem Grow.setCell {a w : World} (h : Grow a w) {p : Addr} (hp : a.heap.size ≤ p.block) (u : Value) : Grow a (w.setCell p u) := Below.setCell h hp u
theorem Grow.grown {a w w' : World} {row : Option Nat} (h : Grow a w) (hg : w.grownBy w' row) (hr : ∀ k, row = some k → a.heap.size ≤ k) : Grow a w' := Below.grown h hg h.size hr
theorem Grow.sub {w w' : World} (h : Grow w w') : Sub w.cell? w'.cell? := Sub.below h
/-- what was there reads as before -/
theorem bcell {W w1 : World} (hb : Grow W w1) : (∀ b o, b < W.heap.size → w1.cell? ⟨b, o, none⟩ = W.cell? ⟨b, o, none⟩) ∧ (∀ b o, b < W.heap.size → w1.frozen? ⟨b, o, none⟩ = W.frozen? ⟨b, o, none⟩) :=
  ⟨fun b o h => hb.cell (p := ⟨b, o, none⟩) h, fun b o h => hb.frozen (p := ⟨b, o, none⟩) h⟩
theorem ret_int {k : IntKind} {a b : Int} (h : a = b) : Ending.returned (.int k a) = .returned (.int k b) := by rw [h]
theorem ret_bool {a b : Bool} (h : a = b) : Ending.returned (.bool a) = .returned (.bool b) := by rw [h]
/-- the cells xs lie from place o of block b on -/
def At (c : CM) (b o : Nat) (xs : List Value) : Prop := ∀ j v, xs[j]? = some v → c ⟨b, o + j, none⟩ = some v
theorem At.mono {c c' : CM} {b o : Nat} {xs : List Value} (h : Sub c c') (k : At c b o xs) : At c' b o xs := fun j v e => h _ _ (k j v e)

/-- a kind of thing that lies in so many cells -/
structure Ty (α : Type) where
  size : Nat
  R : CM → List Value → α → Prop
  len : ∀ {c cs x}, R c cs x → cs.length = size
  mono : ∀ {c c' cs x}, Sub c c' → R c cs x → R c' cs x

/-- a slice value that reads as a list -/
def Sl {α : Type} (T : Ty α) (c : CM) (v : Value) (l : List α) : Prop :=
  ∃ a cap, v = .slice a l.length cap ∧ l.length ≤ cap ∧ cap ≤ maxLen ∧ (a = none → cap = 0) ∧
    ∀ i x, l[i]? = some x → ∃ b o cs, a = some ⟨b, o, none⟩ ∧ T.R c cs x ∧ At c b (o + i * T.size) cs
theorem Sl.mono {α : Type} {T : Ty α} {c c' : CM} {v : Value} {l : List α} (h : Sub c c') (k : Sl T c v l) : Sl T c' v l := by
  obtain ⟨a, cap, hv, h1, h2, h0, h3⟩ := k
  refine ⟨a, cap, hv, h1, h2, h0, fun i x e => ?_⟩
  obtain ⟨b, o, cs, ha, hR, hA⟩ := h3 i x e
  exact ⟨b, o, cs, ha, T.mono h hR, hA.mono h⟩
/-- a slice as a thing of one cell -/
def Ty.sl {α : Type} (T : Ty α) : Ty (List α) where
  size := 1
  R := fun c cs l => ∃ v, cs = [v] ∧ Sl T c v l
  len := by rintro c cs x ⟨v, rfl, _⟩; rfl
  mono := by rintro c c' cs x h ⟨v, rfl, k⟩; exact ⟨v, rfl, k.mono h⟩

/-- a number that an int holds -/
def I64 (n : Int) : Prop := (Lit.int .i64 n).wf = true

def Ty.int : Ty Int where
  size := 1
  R := fun _ cs n => cs = [.int .i64 n] ∧ I64 n
  len := by rintro c cs x ⟨rfl, _⟩; rfl
  mono := by rintro c c' cs x _ h; exact h

/-- a part of a deed -/
structure Pt where
  h : Int
  k : Int
  n : Int
  deriving DecidableEq
def Pt.cells (p : Pt) : List Value := [.int .i64 p.h, .int .i64 p.k, .int .i64 p.n]
def Ty.pt : Ty Pt where
  size := 3
  R := fun _ cs p => cs = p.cells ∧ I64 p.h ∧ I64 p.k ∧ I64 p.n
  len := by rintro c cs x ⟨rfl, _⟩; rfl
  mono := by rintro c c' cs x _ h; exact h
abbrev Pts := Sl Ty.pt

/-- the cells of a flat list -/
theorem flatMap_at {α : Type} {f : α → List Value} {size : Nat} (h0 : 0 < size) (hf : ∀ x, (f x).length = size) : ∀ (l : List α) (j : Nat), (l.flatMap f)[j]? = (l[j / size]?).bind fun x => (f x)[j % size]? := by
  intro l
  induction l with
  | nil => intro j; simp
  | cons x l ih =>
    intro j
    rw [List.flatMap_cons]
    by_cases hj : j < size
    · rw [List.getElem?_append_left (by rw [hf]; exact hj), Nat.div_eq_of_lt hj, Nat.mod_eq_of_lt hj]; rfl
    · rw [List.getElem?_append_right (by rw [hf]; omega), hf, ih, Nat.mod_eq_sub_mod (by omega : size ≤ j), Nat.div_eq_sub_div h0 (by omega : size ≤ j)]
      simp
theorem flat_cells {α : Type} {f : α → List Value} {size : Nat} (h0 : 0 < size) (hf : ∀ x, (f x).length = size) {c : CM} {a : Option Addr} {l : List α}
    (h : ∀ i x, l[i]? = some x → ∃ b o, a = some ⟨b, o, none⟩ ∧ At c b (o + i * size) (f x)) : ∀ ad, a = some ad → ∀ j u, (l.flatMap f)[j]? = some u → c (ad.add j) = some u := by
  rintro ad rfl j u hu
  rw [flatMap_at h0 hf] at hu
  cases hx : l[j / size]? with
  | none => rw [hx] at hu; cases hu
  | some x =>
    rw [hx] at hu
    obtain ⟨b, o, ha, hA⟩ := h _ x hx
    obtain rfl := Option.some.inj ha
    have := hA _ u hu
    rw [Nat.add_assoc, Nat.mul_comm, Nat.div_add_mod] at this
    rw [Addr.add_lit]; exact this
/-- what the call owns reads as a list -/
theorem sl_of_own {α : Type} {T : Ty α} {f : α → List Value} (h0 : 0 < T.size) (hf : ∀ x, (f x).length = T.size) {w : World} {base : Nat} {e : TypeId} {v : Value} {l : List α} (h : w.ownsRow base e T.size v l.length (l.flatMap f)) (hR : ∀ x ∈ l, T.R w.cell? (f x) x) : Sl T w.cell? v l := by
  obtain ⟨hl, ⟨rfl, hn⟩ | ⟨g, cap, cur, rfl, hg, hrow, hnc, hcm, hcs, htake⟩⟩ := h
  · have : l = [] := List.eq_nil_of_length_eq_zero hn
    subst this
    exact ⟨none, 0, rfl, Nat.le_refl _, Nat.zero_le _, fun _ => rfl, fun i x e => by simp at e⟩
  · refine ⟨some ⟨g, 0, none⟩, cap, rfl, hnc, hcm, by simp, fun i x e => ⟨g, 0, f x, rfl, hR x (List.mem_of_getElem? e), fun j u hu => ?_⟩⟩
    have hi : i < l.length := (List.getElem?_eq_some_iff.1 e).1
    have hj : j < T.size := by rw [← hf x]; exact (List.getElem?_eq_some_iff.1 hu).1
    have hx : (l.flatMap f)[i * T.size + j]? = some u := by
      rw [flatMap_at h0 hf, Nat.mul_comm, Nat.mul_add_div h0, Nat.div_eq_of_lt hj, Nat.add_zero, e, Nat.mul_add_mod, Nat.mod_eq_of_lt hj]; exact hu
    rw [← htake, List.getElem?_take] at hx
    split at hx
    · simp only [World.cell?, hrow]; simpa using hx
    · cases hx
/-- what a slice of parts gives a walk at place k -/
theorem Pts.at_ {c : CM} {a : Option Addr} {l : List Pt} (h : ∀ i x, l[i]? = some x → ∃ b o cs, a = some ⟨b, o, none⟩ ∧ Ty.pt.R c cs x ∧ At c b (o + i * Ty.pt.size) cs) (k : Nat) (hk : k < l.length) :
    ∃ b o, a = some ⟨b, o, none⟩ ∧ c ⟨b, o + k * 3, none⟩ = some (.int .i64 l[k].h) ∧ c ⟨b, o + k * 3 + 1, none⟩ = some (.int .i64 l[k].k) ∧ c ⟨b, o + k * 3 + 2, none⟩ = some (.int .i64 l[k].n) ∧ I64 l[k].h ∧ I64 l[k].k ∧ I64 l[k].n := by
  obtain ⟨b, o, cs, ha, ⟨rfl, h1, h2, h3⟩, hA⟩ := h k l[k] (by simp [hk])
  exact ⟨b, o, ha, hA 0 _ rfl, hA 1 _ rfl, hA 2 _ rfl, h1, h2, h3⟩
def ptCells (l : List Pt) : List Value := l.flatMap Pt.cells
theorem ptCells_snoc (l : List Pt) (p : Pt) : ptCells (l ++ [p]) = ptCells l ++ p.cells := by simp [ptCells]
def PtsOk (l : List Pt) : Prop := ∀ p ∈ l, I64 p.h ∧ I64 p.k ∧ I64 p.n
theorem Pts.ok {c : CM} {v : Value} {l : List Pt} (h : Pts c v l) : PtsOk l := by
  obtain ⟨a, cap, rfl, h1, h2, h0, hel⟩ := h
  intro p hp
  obtain ⟨i, hi⟩ := List.mem_iff_getElem?.1 hp
  obtain ⟨b, o, cs, ha, ⟨rfl, h⟩, hA⟩ := hel i p hi
  exact h
theorem Pts.of_own {w : World} {base : Nat} {e : TypeId} {v : Value} {l : List Pt} (h : w.ownsRow base e 3 v l.length (ptCells l)) (hok : PtsOk l) : Pts w.cell? v l :=
  sl_of_own (T := Ty.pt) (f := Pt.cells) (by decide) (fun _ => rfl) h fun x hx => ⟨rfl, hok x hx⟩

/-- a byte -/
def byteCell (b : UInt8) : List Value := [.int .u8 b.toNat]
def Ty.byte : Ty UInt8 where
  size := 1
  R := fun _ cs b => cs = byteCell b
  len := by rintro c cs x rfl; rfl
  mono := by rintro c c' cs x _ h; exact h
abbrev Bts := Sl Ty.byte
def intCell (n : Int) : List Value := [.int .i64 n]
abbrev Ints := Sl Ty.int
theorem Ints.of_own {w : World} {base : Nat} {e : TypeId} {v : Value} {l : List Int} (h : w.ownsRow base e 1 v l.length (l.flatMap intCell)) (hok : ∀ x ∈ l, I64 x) : Ints w.cell? v l :=
  sl_of_own (T := Ty.int) (f := intCell) (by decide) (fun _ => rfl) h fun x hx => ⟨rfl, hok x hx⟩
theorem Bts.of_own {w : World} {base : Nat} {e : TypeId} {v : Value} {l : List UInt8} (h : w.ownsRow base e 1 v l.length (l.flatMap byteCell)) : Bts w.cell? v l :=
  sl_of_own (T := Ty.byte) (f := byteCell) (by decide) (fun _ => rfl) h fun x hx => rfl
theorem flat_len {α : Type} {f : α → List Value} {size : Nat} (hf : ∀ x, (f x).length = size) : ∀ l : List α, (l.flatMap f).length = l.length * size
  | [] => by simp
  | x :: l => by rw [List.flatMap_cons, List.length_append, hf, flat_len hf l, List.length_cons, Nat.add_mul]; omega
theorem flat_one {α : Type} {f : α → List Value} (hf : ∀ x, ∀ u ∈ f x, u.oneCell' = true) (l : List α) : ∀ u ∈ l.flatMap f, u.oneCell' = true := by
  intro u hu
  obtain ⟨x, _, hx⟩ := List.mem_flatMap.1 hu
  exact hf x u hx
theorem one_pt (x : Pt) : ∀ u ∈ x.cells, u.oneCell' = true := by
  intro u hu
  simp only [Pt.cells, List.mem_cons, List.not_mem_nil, or_false] at hu
  rcases hu with rfl | rfl | rfl <;> rfl
theorem one_int (x : Int) : ∀ u ∈ intCell x, u.oneCell' = true := by
  intro u hu
  simp only [intCell, List.mem_cons, List.not_mem_nil, or_false] at hu
  subst hu; rfl
theorem one_byte (x : UInt8) : ∀ u ∈ byteCell x, u.oneCell' = true := by
  intro u hu
  simp only [byteCell, List.mem_cons, List.not_mem_nil, or_false] at hu
  subst hu; rfl
/-- four sums of a house -/
structure Sm where
  a : Int
  b : Int
  c : Int
  d : Int
  deriving DecidableEq
def Sm.cells (s : Sm) : List Value := [.int .i64 s.a, .int .i64 s.b, .int .i64 s.c, .int .i64 s.d]
theorem one_sm (x : Sm) : ∀ u ∈ x.cells, u.oneCell' = true := by
  intro u hu
  simp only [Sm.cells, List.mem_cons, List.not_mem_nil, or_false] at hu
  rcases hu with rfl | rfl | rfl | rfl <;> rfl
def Ty.sm : Ty Sm where
  size := 4
  R := fun _ cs s => cs = s.cells ∧ I64 s.a ∧ I64 s.b ∧ I64 s.c ∧ I64 s.d
  len := by rintro c cs x ⟨rfl, _⟩; rfl
  mono := by rintro c c' cs x _ h; exact h
abbrev Sms := Sl Ty.sm
end Go.Proofs.Ytejdlheijenjlaa

/- Walks: the constants have their values. -/
namespace Go.Proofs.Ytejdlheijenjlaa
open Go.RowKit
theorem lit_at (w : World) (l : List Int) (t : TypeId) (wr : World) (hg : Grow (w.alloc (.cells (l.map (Value.int .i64)).toArray t)) wr) {k : Nat} (hk : k < l.length) : wr.cell? ⟨w.heap.size, k, none⟩ = some (.int .i64 l[k]) := by
  refine hg.sub _ _ ?_
  rw [World.cell?_alloc_new]
  simp [hk]
set_option maxRecDepth 100000 in
set_option maxHeartbeats 2000000 in
theorem names_walk (w : World) : Calls Try.prog 3 #[] w fun e w' => e = .returned (.bool true) ∧ Grow w w' := by
  obtain ⟨wa, hwa⟩ : ∃ y : World, y = w.alloc (.cells #[.int .i64 0, .int .i64 1, .int .i64 2, .int .i64 3, .int .i64 4, .int .i64 5, .int .i64 6, .int .i64 7, .int .i64 8, .int .i64 9, .int .i64 10, .int .i64 11, .int .i64 12] 22) := ⟨_, rfl⟩
  have GA : Hid (Grow w wa) := Lib.hid (by rw [hwa]; exact (Grow.refl w).alloc _)
  have HA : Hid (∀ wr, Grow wa wr → ∀ k : Nat, k < 13 → wr.cell? ⟨w.heap.size, k, none⟩ = some (.int .i64 k)) := Lib.hid (fun wr hg k hk => by
    rw [hwa] at hg
    have h9 := lit_at w ([0, 1, 2, 3, 4, 5, 6, 7, 8, 9, 10, 11, 12] : List Int) 22 wr hg (k := k) hk
    rw [h9]
    match k, hk with
    | 0, _ => rfl
    | 1, _ => rfl
    | 2, _ => rfl
    | 3, _ => rfl
    | 4, _ => rfl
    | 5, _ => rfl
    | 6, _ => rfl
    | 7, _ => rfl
    | 8, _ => rfl
    | 9, _ => rfl
    | 10, _ => rfl
    | 11, _ => rfl
    | 12, _ => rfl)
  obtain ⟨wb, hwb⟩ : ∃ y : World, y = w.alloc (.cells #[.int .i64 0, .int .i64 1, .int .i64 2, .int .i64 3, .int .i64 4, .int .i64 5, .int .i64 6, .int .i64 7, .int .i64 8, .int .i64 9, .int .i64 10, .int .i64 11, .int .i64 12] 22) := ⟨_, rfl⟩
  go_enter Try.func3, Try.ntmps3
  go_upto_region 2 with fail
  rw [← hwa]
  clear hwa hwb wb
  have HZ : Hid (w.heap.size < wa.heap.size ∨ True) := Lib.hid (.inr trivial)
  clear HZ
  go_wp2
  go_loopw [10] (fun i wr => ∃ k : Nat, k ≤ 13 ∧ i = .int .i64 k ∧ Grow wa wr) (fun i _ => 13 - (intOf i).toNat)
  case atStart => exact ⟨0, by omega, rfl, Grow.refl _⟩
  case round =>
    obtain ⟨k, hk, rfl, hb⟩ := hrel
    by_cases hlt : k < 13
    · have c0 := HA.out wr hb k hlt
      have hlt' : (k : Int) < 13 := by omega
      have hke : ((k : Int) != (k : Int)) = false := by simp
      have HB := Lib.hid hb
      clear hb
      go_wp2
      go_roundw
      case rel => exact ⟨k + 1, by omega, by go_num, HB.out⟩
      case measure => simp [intOf]; omega
    · have hlt' : ¬ (k : Int) < 13 := by omega
      have G1 := Lib.hid (GA.out.trans hb)
      obtain ⟨w1, rfl⟩ : ∃ y : World, y = wr := ⟨_, rfl⟩
      clear hb
      obtain ⟨w2, hw2⟩ : ∃ y : World, y = w1.alloc (.cells #[.int .i64 3, .int .i64 4, .int .i64 4, .int .i64 1048576, .int .i64 24, .int .i64 12, .int .i64 20, .int .i64 64, .int .i64 1, .int .i64 2, .int .i64 3, .int .i64 4, .int .i64 5, .int .i64 6, .int .i64 7, .int .i64 1, .int .i64 2, .int .i64 3, .int .i64 4, .int .i64 5, .int .i64 6, .int .i64 1, .int .i64 2, .int .i64 3, .int .i64 4, .int .i64 5, .int .i64 6, .int .i64 7, .int .i64 150, .int .i64 30] 3) := ⟨_, rfl⟩
      obtain ⟨w3, hw3⟩ : ∃ y : World, y = w2.alloc (.cells #[.int .i64 3, .int .i64 4, .int .i64 4, .int .i64 1048576, .int .i64 24, .int .i64 12, .int .i64 20, .int .i64 64, .int .i64 1, .int .i64 2, .int .i64 3, .int .i64 4, .int .i64 5, .int .i64 6, .int .i64 7, .int .i64 1, .int .i64 2, .int .i64 3, .int .i64 4, .int .i64 5, .int .i64 6, .int .i64 1, .int .i64 2, .int .i64 3, .int .i64 4, .int .i64 5, .int .i64 6, .int .i64 7, .int .i64 150, .int .i64 30] 3) := ⟨_, rfl⟩
      have hl : ([3, 4, 4, 1048576, 24, 12, 20, 64, 1, 2, 3, 4, 5, 6, 7, 1, 2, 3, 4, 5, 6, 1, 2, 3, 4, 5, 6, 7, 150, 30] : List Int).length = 30 := rfl
      obtain ⟨L, hL⟩ : ∃ L : List Int, L = [3, 4, 4, 1048576, 24, 12, 20, 64, 1, 2, 3, 4, 5, 6, 7, 1, 2, 3, 4, 5, 6, 1, 2, 3, 4, 5, 6, 7, 150, 30] := ⟨_, rfl⟩
      have HB1 : Hid (∀ wr, Grow w3 wr → ∀ k : Nat, (hk : k < L.length) → wr.cell? ⟨w1.heap.size, k, none⟩ = some (.int .i64 L[k])) := Lib.hid (fun wr hg k hk => by
        subst hL
        refine lit_at w1 ([3, 4, 4, 1048576, 24, 12, 20, 64, 1, 2, 3, 4, 5, 6, 7, 1, 2, 3, 4, 5, 6, 1, 2, 3, 4, 5, 6, 7, 150, 30] : List Int) 3 wr ?_ hk
        refine Grow.trans ?_ hg
        rw [hw3, hw2]
        exact (Grow.refl _).alloc _)
      have HB2 : Hid (∀ wr, Grow w3 wr → ∀ k : Nat, (hk : k < L.length) → wr.cell? ⟨w2.heap.size, k, none⟩ = some (.int .i64 L[k])) := Lib.hid (fun wr hg k hk => by
        subst hL
        refine lit_at w2 ([3, 4, 4, 1048576, 24, 12, 20, 64, 1, 2, 3, 4, 5, 6, 7, 1, 2, 3, 4, 5, 6, 1, 2, 3, 4, 5, 6, 7, 150, 30] : List Int) 3 wr ?_ hk
        rw [hw3] at hg
        exact hg)
      have G3 : Hid (Grow w w3) := Lib.hid (by rw [hw3, hw2]; exact (G1.out.alloc _).alloc _)
      have hl3 : L.length = 30 := by rw [hL]; rfl
      go_upto_region 10 with fail
      rw [← hw2, ← hw3]
      obtain ⟨B4, hB4⟩ : ∃ y, y = w1.heap.size := ⟨_, rfl⟩
      obtain ⟨B5, hB5⟩ : ∃ y, y = w2.heap.size := ⟨_, rfl⟩
      rw [← hB4] at HB1 ⊢
      rw [← hB5] at HB2
      try rw [← hB5]
      try rw [show w1.heap.size + 1 = B5 by rw [hB5, hw2]; simp]
      try rw [show B4 + 1 = B5 by rw [hB5, hB4, hw2]; simp]
      clear hw2 hw3 hL hl hB4 hB5
      go_wp2
      go_loopw [23] (fun i wr => ∃ k : Nat, k ≤ 30 ∧ i = .int .i64 k ∧ Grow w3 wr) (fun i _ => 30 - (intOf i).toNat)
      case atStart => exact ⟨0, by omega, rfl, Grow.refl _⟩
      case round =>
        obtain ⟨q, hq, rfl, hb⟩ := hrel
        by_cases hlq : q < 30
        · have hqL : q < L.length := by omega
          have c4 := HB1.out wr hb q hqL
          have c5 := HB2.out wr hb q hqL
          have HS : Hid (∀ W, Grow wr W → W.cell? ⟨B4, q, none⟩ = some (.int .i64 L[q]) ∧ W.cell? ⟨B5, q, none⟩ = some (.int .i64 L[q])) := fun W hW => ⟨hW.sub _ _ c4, hW.sub _ _ c5⟩
          have hlq' : (q : Int) < 30 := by omega
          have HB := Lib.hid hb
          clear hb hl3
          generalize L[q] = y at *
          have hye : (y != y) = false := by simp
          go_wp2
          go_region_held3 (fun w' => w'.cell? ⟨B4, q, none⟩ = some (.int .i64 y) ∧ w'.cell? ⟨B5, q, none⟩ = some (.int .i64 y)) (first | assumption | exact HS.out _ (by repeat (first | with_reducible assumption | with_reducible exact Grow.refl _ | with_reducible apply Grow.drewN | with_reducible apply Grow.drew | with_reducible apply Grow.alloc | (refine Grow.trans ?_ (by with_reducible assumption))))) (fail)
          have GW : Grow wr wr.drew := (Grow.refl _).drew
          go_wp2
          go_roundw
          case rel => exact ⟨q + 1, by omega, by go_num, by first | exact HB.out.trans (by repeat (first | with_reducible assumption | with_reducible exact Grow.refl _ | with_reducible apply Grow.drewN | with_reducible apply Grow.drew | with_reducible apply Grow.alloc | (refine Grow.trans ?_ (by with_reducible assumption)))) | exact HB.out⟩
          case measure => simp [intOf]; omega
        · have hlq' : ¬ (q : Int) < 30 := by omega
          have HB := Lib.hid hb
          clear hb
          go_wp2
          go_ret
          exact ⟨rfl, G3.out.trans HB.out⟩
end Go.Proofs.Ytejdlheijenjlaa
