/- A map of the call's own, read and written: keys that are numbers or pairs of numbers. -/
import Derived.Test.YtgbhpghgohggcaaOwn
import Derived.ChangeKeysEq
namespace Go.Proofs.Ytgbhpghgohggcaa
open Go.RowKit Go.Instr

/-- a block that holds a map: the keys, in the order in which they came, and what lies there -/
def MapIs {κ : Type} (enc : κ → Value) (w : World) (m : Nat) (kv : List (κ × Value)) : Prop :=
  ∃ (es : List MapEntry) (clock : Nat), w.heap[m]? = some (.map es.toArray clock) ∧ es.map (fun e => (e.key, e.val)) = kv.map fun p => (enc p.1, p.2)
/-- what the model asks of keys -/
structure KeyOk {κ : Type} [DecidableEq κ] (P : Program) (K : TypeId) (enc : κ → Value) : Prop where
  chk : ∀ (b : Bool) (k : κ) (w : World), (checkKey b 10000 K (enc k)).run P w = .ok () w
  find : ∀ (k : κ) (kv : List (κ × Value)) (es : List MapEntry) (w : World), es.map (fun e => (e.key, e.val)) = kv.map (fun p => (enc p.1, p.2)) →
    (findKey K (enc k) es).run P w = .ok ((kv.findIdx? (fun p => p.1 == k)).bind fun i => (kv[i]?).map fun p => (i, p.2)) w
  same : ∀ k, sameBits 10000 (enc k) (enc k) = true
def mget {κ : Type} [DecidableEq κ] (kv : List (κ × Value)) (k : κ) : Option Value := (kv.find? (fun p => p.1 == k)).map (·.2)
def mput {κ : Type} [DecidableEq κ] (kv : List (κ × Value)) (k : κ) (v : Value) : List (κ × Value) := match kv.findIdx? (fun p => p.1 == k) with | some i => kv.set i (k, v) | none => kv ++ [(k, v)]

theorem mget_idx {κ : Type} [DecidableEq κ] (kv : List (κ × Value)) (k : κ) : ((kv.findIdx? (fun p => p.1 == k)).bind fun i => (kv[i]?).map fun p => (i, p.2)).map (·.2) = mget kv k := by
  unfold mget
  cases h : kv.findIdx? (fun p => p.1 == k) with
  | none =>
    rw [List.findIdx?_eq_none_iff] at h
    have : kv.find? (fun p => p.1 == k) = none := by
      rw [List.find?_eq_none]; intro x hx; simpa using h x hx
    rw [this]; rfl
  | some i =>
    have hf := List.find?_eq_some_iff_getElem (xs := kv) (p := fun p : κ × Value => p.1 == k) (b := kv[i]'(by rw [List.findIdx?_eq_some_iff_getElem] at h; exact h.1))
    have h' := h
    rw [List.findIdx?_eq_some_iff_getElem] at h
    obtain ⟨hi, hp, hb⟩ := h
    rw [hf.2 ⟨hp, i, hi, rfl, fun j hj => by simpa using hb j hj⟩]
    simp [List.getElem?_eq_getElem hi]

theorem run_lookup {κ : Type} [DecidableEq κ] {P : Program} {t K E : TypeId} {enc : κ → Value} (hK : KeyOk P K enc) (ht : P.underlying t = some (.map K E)) {z : Value} (hz : ∀ w, (zeroValue E).run P w = .ok z w) {w : World} {m : Nat} {kv : List (κ × Value)} (h : MapIs enc w m kv) (k : κ) :
    (lookup t (.map (some m)) (enc k) false).run P w = .ok ((mget kv k).getD z) w := by
  obtain ⟨es, clock, hb, he⟩ := h
  have hf := hK.find k kv es w he
  rw [← mget_idx]
  have hc := fun b => hK.chk b k w
  cases h : (kv.findIdx? (fun p => p.1 == k)).bind fun i => (kv[i]?).map fun p => (i, p.2) with
  | none =>
    rw [h] at hf
    simp [Instr.lookup, run_underlying ht, MapKept.run_getObj_map hb, hc, hf, hz, Result.andThen]
  | some q =>
    rw [h] at hf
    simp [Instr.lookup, run_underlying ht, MapKept.run_getObj_map hb, hc, hf, Result.andThen]
theorem run_put {κ : Type} [DecidableEq κ] {P : Program} {t K E : TypeId} {enc : κ → Value} (hK : KeyOk P K enc) (ht : P.underlying t = some (.map K E)) {w : World} {m : Nat} {kv : List (κ × Value)} (h : MapIs enc w m kv) (k : κ) (v : Value) :
    ∃ w', (mapUpdate t (.map (some m)) (enc k) v).run P w = .ok () w' ∧ MapIs enc w' m (mput kv k v) ∧ w.grownBy w' (some m) := by
  obtain ⟨es, clock, hb, he⟩ := h
  have hf := hK.find k kv es w he
  have hc := fun b => hK.chk b k w
  have hlt : m < w.heap.size := (Array.getElem?_eq_some_iff.1 hb).1
  have hlen : es.length = kv.length := by have := congrArg List.length he; simpa using this
  have hgr : ∀ o : Obj, w.grownBy { w with heap := w.heap.setIfInBounds m o } (some m) := fun o =>
    ⟨rfl, rfl, rfl, by simp, fun k hk hne => by simp only [Array.getElem?_setIfInBounds]; rw [if_neg (fun e => hne (by rw [e]))]⟩
  have hset : ∀ (o : Obj), (setObj m o).run P w = .ok () { w with heap := w.heap.setIfInBounds m o } := fun o => by simp [setObj, Sem.run, hb]
  cases h : kv.findIdx? (fun p => p.1 == k) with
  | none =>
    rw [h] at hf
    refine ⟨_, by simp [Instr.mapUpdate, run_underlying ht, MapKept.run_getObj_map hb, hc, hf, hset, Result.andThen]; rfl, ?_, hgr _⟩
    refine ⟨es ++ [{ key := enc k, val := v, born := clock }], clock + 1, by simp [hlt], ?_⟩
    rw [mput, h]; simp [he]
  | some i =>
    rw [h] at hf
    rw [List.findIdx?_eq_some_iff_getElem] at h
    obtain ⟨hi, hp, hbf⟩ := h
    have hek : (es[i]'(by omega)).key = enc k := by
      have := congrArg (fun l => l[i]?) he
      simp only [List.getElem?_map, List.getElem?_eq_getElem hi, List.getElem?_eq_getElem (show i < es.length by omega), Option.map_some, Option.some.injEq, Prod.mk.injEq] at this
      rw [this.1]; congr 1; simpa using hp
    have hkeep : (keyThatStays (((es.toArray[i]?).map (·.key)).getD (enc k)) (enc k)).run P w = .ok (enc k) w := by
      have : ((es.toArray[i]?).map (·.key)).getD (enc k) = enc k := by simp [List.getElem?_eq_getElem (show i < es.length by omega), hek]
      rw [this]; simp [keyThatStays, hK.same]
    simp only [Option.bind_some, List.getElem?_eq_getElem hi, Option.map_some] at hf
    refine ⟨_, by simp only [Instr.mapUpdate, Sem.run_bind, run_underlying ht, Result.andThen_ok, MapKept.run_getObj_map hb, hc, hf, hkeep, hset]; rfl, ?_, hgr _⟩
    refine ⟨es.modify i fun e => { e with key := enc k, val := v }, clock, by simp [hlt], ?_⟩
    have hm : mput kv k v = kv.set i (k, v) := by
      have : kv.findIdx? (fun p => p.1 == k) = some i := by rw [List.findIdx?_eq_some_iff_getElem]; exact ⟨hi, hp, hbf⟩
      rw [mput, this]
    rw [hm, List.map_set, ← he]
    apply List.ext_getElem?
    intro j
    simp only [List.getElem?_map, List.getElem?_modify, List.getElem?_set, List.length_map]
    by_cases hij : i = j
    · subst hij
      simp [show i < es.length by omega]
    · simp [hij]

theorem find_of {κ : Type} [DecidableEq κ] {P : Program} {K : TypeId} {enc : κ → Value} (heq : ∀ (k k' : κ) (w : World), (Op.equal K (enc k) (enc k')).run P w = .ok (decide (k = k')) w) (k : κ) : ∀ (kv : List (κ × Value)) (es : List MapEntry) (n : Nat) (w : World), es.map (fun e => (e.key, e.val)) = kv.map (fun p => (enc p.1, p.2)) →
    (findAsking K (enc k) es n).run P w = .ok ((kv.findIdx? (fun p => p.1 == k)).bind fun i => (kv[i]?).map fun p => (n + i, p.2)) w
  | [], [], n, w, _ => by simp [findAsking]
  | [], _ :: _, n, w, h => by simp at h
  | _ :: _, [], n, w, h => by simp at h
  | p :: kv, e :: es, n, w, h => by
    simp only [List.map_cons, List.cons.injEq, Prod.mk.injEq] at h
    obtain ⟨⟨hk, hv⟩, h⟩ := h
    have ih := find_of heq k kv es (n + 1) w h
    simp only [findAsking, Sem.run_bind, hk, heq, Result.andThen_ok, Sem.run_ite, ih, Sem.run_pure, List.findIdx?_cons]
    by_cases hp : p.1 = k
    · simp [hp, hv]
    · have : ¬ k = p.1 := fun e => hp e.symm
      simp only [this, decide_false, Bool.false_eq_true, if_false, hp, beq_eq_false_iff_ne.2 hp]
      congr 1
      cases kv.findIdx? (fun p => p.1 == k) with
      | none => rfl
      | some i => simp [Nat.add_assoc, Nat.add_comm 1 i]
def encInt (n : Int) : Value := .int .i64 n
theorem keyInt : KeyOk (κ := Int) Try.prog 3 encInt where
  chk := fun b k w => by cases b <;> kernel_rfl
  find := by
    intro k kv es w h
    have hf : ∀ (kv : List (Int × Value)) (es : List MapEntry) (n : Nat), es.map (fun e => (e.key, e.val)) = kv.map (fun p => (encInt p.1, p.2)) → findNow (.int .i64) (encInt k) es n = some ((kv.findIdx? (fun p => p.1 == k)).bind fun i => (kv[i]?).map fun p => (n + i, p.2)) := by
      intro kv
      induction kv with
      | nil => intro es n h; cases es with
        | nil => simp [findNow]
        | cons _ _ => simp at h
      | cons p kv ih =>
        intro es n h
        cases es with
        | nil => simp at h
        | cons e es =>
          simp only [List.map_cons, List.cons.injEq, Prod.mk.injEq] at h
          obtain ⟨⟨hk, hv⟩, h⟩ := h
          simp only [findNow, hk, encInt, sameNow, if_true, List.findIdx?_cons]
          by_cases hp : p.1 = k
          · simp [hp, hv]
          · have : ¬ k = p.1 := fun e => hp e.symm
            simp only [beq_eq_false_iff_ne.2 this, beq_eq_false_iff_ne.2 hp]
            have := ih es (n + 1) h
            simp only [encInt] at this
            rw [this]
            simp only [Bool.false_eq_true, if_false, Option.some.injEq]
            cases kv.findIdx? (fun p => p.1 == k) with
            | none => rfl
            | some i => simp [Nat.add_assoc, Nat.add_comm 1 i]
    have := hf kv es 0 h
    simp only [Nat.zero_add] at this
    simp only [findKey, Sem.run_bind, run_underlying Try.underlying3, Result.andThen_ok, this, Sem.run_pure]
  same := fun k => by simp [encInt, sameBits]
def encPair (p : Int × Int) : Value := .agg #[.int .i64 p.1, .int .i64 p.2]
theorem keyPair : KeyOk (κ := Int × Int) Try.prog 169 encPair where
  chk := fun b k w => by cases b <;> kernel_rfl
  find := by
    intro k kv es w h
    have heq : ∀ (k k' : Int × Int) (w : World), (Op.equal 169 (encPair k) (encPair k')).run Try.prog w = .ok (decide (k = k')) w := by
      intro k k' w
      obtain ⟨a, b⟩ := k
      obtain ⟨a', b'⟩ := k'
      obtain ⟨i, z, hi, _⟩ := ei_int.hi
      have u3 := Try.underlying3
      have a3 := Try.isAgg3
      have z3 := Try.sizeOf3
      have hc : Try.prog.cellsOf 3 = 1 := by kernel_rfl
      unfold Op.equal Op.maxDepth
      rw [encPair, encPair, show (10000 : Nat) = 9999 + 1 from rfl, run_equalIn_array w 9999 _ _ Try.underlying169 hi, hc, show List.range 2 = [0, 1] from rfl]
      clear hi
      simp only [Op.eqItems]
      go_simp
      by_cases h1 : a = a' <;> by_cases h2 : b = b' <;> simp [h1, h2]
    have := find_of heq k kv es 0 w h
    simp only [Nat.zero_add] at this
    cases es with
    | nil =>
      simp only [findKey, Sem.run_bind, run_underlying Try.underlying169, Result.andThen_ok, findNow, Sem.run_pure]
      cases kv with
      | nil => rfl
      | cons _ _ => simp at h
    | cons e es =>
      have hn : findNow (.array 2 3) (encPair k) (e :: es) 0 = none := by simp [findNow, encPair, sameNow]
      simp only [findKey, Sem.run_bind, run_underlying Try.underlying169, Result.andThen_ok, hn, this]
  same := fun k => by simp [encPair, sameBits]

/-- a look-up, for the walk -/
theorem wp_lookup {κ : Type} [DecidableEq κ] {P : Program} {t K E : TypeId} {enc : κ → Value} (hK : KeyOk P K enc) (ht : P.underlying t = some (.map K E)) {z : Value} (hz : ∀ w, (zeroValue E).run P w = .ok z w) {w : World} {ops : Array Oper} {rest : List Oper} {o : Oper} {a : Act} {Q : Exit → Act → World → Prop} (hg : o.guard = none) (mo x : Operand) (hop : o.op = Op.lookup t mo x false)
    {m : Nat} {kv : List (κ × Value)} (h : MapIs enc w m kv) (k : κ) (hm : a.eval mo = .map (some m)) (hx : a.eval x = enc k) (hC : wpList P ops Q rest (a.put o.dst ((mget kv k).getD z)) w) : wpList P ops Q (o :: rest) a w := by
  refine wpList_plain hg fun K' hK' => ?_
  have hrun := run_lookup hK ht hz h k
  unfold Oper.wp
  simp [execOp, hop, hm, hx, hrun, Result.andThen]
  exact hK' _ _ hC
/-- a store into a map, for the walk -/
theorem wp_put {κ : Type} [DecidableEq κ] {P : Program} {t K E : TypeId} {enc : κ → Value} (hK : KeyOk P K enc) (ht : P.underlying t = some (.map K E)) {w : World} {ops : Array Oper} {rest : List Oper} {o : Oper} {a : Act} {Q : Exit → Act → World → Prop} (hg : o.guard = none) (mo x y : Operand) (hop : o.op = Op.mapUpdate t mo x y)
    {m : Nat} {kv : List (κ × Value)} (h : MapIs enc w m kv) (k : κ) (v : Value) (hm : a.eval mo = .map (some m)) (hx : a.eval x = enc k) (hy : a.eval y = v) (hC : ∀ w', MapIs enc w' m (mput kv k v) → w.grownBy w' (some m) → wpList P ops Q rest (a.put o.dst undef) w') : wpList P ops Q (o :: rest) a w := by
  refine wpList_plain hg fun K' hK' => ?_
  obtain ⟨w', hrun, h1, h2⟩ := run_put hK ht h k v
  unfold Oper.wp
  simp [execOp, hop, hm, hx, hy, hrun, Result.andThen]
  exact hK' _ _ (hC w' h1 h2)
theorem MapIs.new {κ : Type} {enc : κ → Value} (w : World) : MapIs enc (w.alloc (.map #[] 0)) w.heap.size [] := ⟨[], 0, heap_alloc_new w _, rfl⟩
theorem MapIs.grown {κ : Type} {enc : κ → Value} {w w' : World} {m : Nat} {kv : List (κ × Value)} {row : Option Nat} (h : MapIs enc w m kv) (hg : w.grownBy w' row) (hne : row ≠ some m) : MapIs enc w' m kv := by
  obtain ⟨es, c, hb, he⟩ := h
  exact ⟨es, c, by rw [hg.block m (Array.getElem?_eq_some_iff.1 hb).1 (fun e => hne e.symm)]; exact hb, he⟩
theorem MapIs.lt {κ : Type} {enc : κ → Value} {w : World} {m : Nat} {kv : List (κ × Value)} (h : MapIs enc w m kv) : m < w.heap.size := by
  obtain ⟨es, c, hb, he⟩ := h
  exact (Array.getElem?_eq_some_iff.1 hb).1
/-- a set of keys: all that are there are true -/
def setKv {κ : Type} (ks : List κ) : List (κ × Value) := ks.map fun k => (k, .bool true)
theorem mget_set {κ : Type} [DecidableEq κ] (ks : List κ) (k : κ) : (mget (setKv ks) k).getD (.bool false) = .bool (decide (k ∈ ks)) := by
  unfold mget setKv
  induction ks with
  | nil => simp
  | cons x ks ih =>
    simp only [List.map_cons, List.find?_cons]
    by_cases h : x = k
    · simp [h]
    · have h' : ¬ k = x := fun e => h e.symm
      simp only [beq_eq_false_iff_ne.2 h, List.mem_cons, h', false_or]
      exact ih
theorem mget_in {κ : Type} [DecidableEq κ] {ks : List κ} {k : κ} (h : k ∈ ks) : (mget (setKv ks) k).getD (.bool false) = .bool true := by rw [mget_set]; simp [h]
theorem mget_out {κ : Type} [DecidableEq κ] {ks : List κ} {k : κ} (h : ¬ k ∈ ks) : (mget (setKv ks) k).getD (.bool false) = .bool false := by rw [mget_set]; simp [h]
theorem mput_set {κ : Type} [DecidableEq κ] (ks : List κ) (k : κ) : ∃ ks', mput (setKv ks) k (.bool true) = setKv ks' ∧ ∀ x, x ∈ ks' ↔ x ∈ ks ∨ x = k := by
  unfold mput
  cases h : (setKv ks).findIdx? (fun p => p.1 == k) with
  | none => exact ⟨ks ++ [k], by simp [setKv], by simp⟩
  | some i =>
    rw [List.findIdx?_eq_some_iff_getElem] at h
    obtain ⟨hi, hp, _⟩ := h
    have hi' : i < ks.length := by simpa [setKv] using hi
    have hk : ks[i] = k := by simpa [setKv] using hp
    refine ⟨ks, ?_, fun x => ⟨Or.inl, fun h => h.elim id fun h => by rw [h, ← hk]; exact List.getElem_mem _⟩⟩
    apply List.ext_getElem?
    intro j
    rw [List.getElem?_set]
    by_cases hij : i = j
    · subst hij; simp [setKv, hi', hk]
    · simp [hij]
end Go.Proofs.Ytgbhpghgohggcaa
