/- More readings of the form's arguments; how large they are. -/
import Derived.Test.YtgbhpghgohggcaaTrod
import Derived.SizedLaws
namespace Go.Proofs.Ytgbhpghgohggcaa
open Go.RowKit Go.ChangeShapes Go.WideShapes Go.ChangeAt
theorem sl_len {α : Type} {T : Ty α} {c : CM} {a : Option Addr} {n cap : Nat} {l : List α} (h : Sl T c (.slice a n cap) l) : l.length = n := by
  obtain ⟨a', cap', he, _⟩ := h
  simp only [Value.slice.injEq] at he
  exact he.2.1.symm
/-- an argument that is a slice: it takes no more bytes than a process has -/
theorem arg_size {α : Type} {P : Program} {t e : TypeId} {T : Ty α} {k : Nat} (ht : P.underlying t = some (.slice e)) (hb : P.bytesOf e = k) {H : Type} {enc : TypeId × Value → H} {W : World} {r : Reach} {b : Nat} {v : Value} {d : DataW H} {p : List MemPlace} {ts : List TypeId} {ds : List (DataW H)} {j : Nat}
    (hsz : (DataW.weightsEach P ts ds).all (· ≤ reachBytes) = true) (hj : ts[j]? = some t) (hd : ds[j]? = some d)
    (hval : Value.okWide P W r b t v) (h : DataW.Trod enc P W 0 (fun _ => true) true t v d p) {l : List α} (hl : Sl T W.cell? v l) : l.length * k ≤ 140737488351232 := by
  obtain ⟨a, len, cap, rfl⟩ := okWide_slice ht hval
  obtain ⟨fuel, hf⟩ := h
  have hll := sl_len hl
  rcases Deep.open_slice ht hf with ⟨he, _⟩ | ⟨a', len', cap', m, n, D, Pl, he, _, hlc, _, hmm, hxe, _⟩
  · simp [Value.cells] at he
    rw [hll, he.2.1]; simp
  · simp [Value.cells] at he
    obtain ⟨_, rfl, rfl⟩ := he
    obtain rfl : d = .slice ((List.range len).map D) ((List.range (m - len)).map fun j => D (len + j)) := by simpa using congrArg Prod.fst hxe
    have := sized_slice hsz hj hd ht
    rw [hb, List.length_map, List.length_range] at this
    rw [hll]
    have h2 : len * k ≤ (len + ((List.range (m - len)).map fun j => D (len + j)).length) * k := Nat.mul_le_mul_right _ (Nat.le_add_right _ _)
    have h3 : reachBytes = 140737488351232 := rfl
    omega
/-- an argument that is a struct by value -/
theorem arg_of {α : Type} {P : Program} {t : TypeId} {fs : Array Field} {T : Ty α} (hR : Reads P t T) (ht : P.underlying t = some (.struct fs)) {H : Type} {enc : TypeId × Value → H} {W : World} {r : Reach} {b : Nat} {v : Value} {d : DataW H} {p : List MemPlace}
    (hval : Value.okWide P W r b t v) (h : DataW.Trod enc P W 0 (fun _ => true) true t v d p) : ∃ x, Of T W.cell? v x := by
  obtain ⟨cs, rfl, _⟩ := okWide_struct ht hval
  obtain ⟨fuel, hf⟩ := h
  obtain ⟨x, hx⟩ := hR _ _ _ _ _ _ hf
  exact ⟨x, cs.toList, rfl, hx⟩
theorem reads_st : Reads Try.prog 164 Ty.st := by
  intro H enc W fuel cs x h
  obtain ⟨hl, hf⟩ := struct_fields (fs' := [(3, 0, 1), (3, 1, 1), (23, 2, 1)]) (by kernel_rfl) h
  rw [show (Try.prog).cellsOf 164 = 3 by kernel_rfl] at hl
  match cs, hl with
  | [a, b, c], _ =>
    obtain ⟨_, _, h0⟩ := hf 0 _ rfl
    obtain ⟨_, _, h1⟩ := hf 1 _ rfl
    obtain ⟨_, _, h2⟩ := hf 2 _ rfl
    obtain ⟨x0, e0, w0⟩ := reads_int (by kernel_rfl) _ _ _ _ _ _ h0
    obtain ⟨x1, e1, w1⟩ := reads_int (by kernel_rfl) _ _ _ _ _ _ h1
    obtain ⟨x2, v2, e2, w2⟩ := reads_pts _ _ _ _ _ _ h2
    refine ⟨⟨x0, x1, x2⟩, v2, ?_, w0, w1, w2⟩
    simp at e0 e1 e2
    subst e0 e1 e2
    rfl
theorem reads_sts : Reads Try.prog 90 (Ty.sl Ty.st) := reads_sl reads_st (by kernel_rfl) (by kernel_rfl) (by decide)
theorem reads_rds : Reads Try.prog 26 (Ty.sl Ty.rd) := reads_sl reads_rd (by kernel_rfl) (by kernel_rfl) (by decide)
theorem reads_byte : Reads Try.prog 5 Ty.byte := by
  intro H enc W fuel cs x h
  obtain ⟨n, rfl, _, hw⟩ := DataW.trod_int (k := .u8) (by kernel_rfl) h
  have hw2 : 0 ≤ n ∧ n < 256 := by
    have h2 : (Lit.int .u8 n).wf = true := hw
    have h3 : IntKind.u8.min ≤ n ∧ n ≤ IntKind.u8.max := by simpa [Lit.wf] using h2
    have h4 : IntKind.u8.min = 0 := by decide
    have h5 : IntKind.u8.max = 255 := by decide
    omega
  refine ⟨UInt8.ofNat n.toNat, ?_⟩
  show [Value.int .u8 n] = byteCell _
  unfold byteCell
  have : ((UInt8.ofNat n.toNat).toNat : Int) = n := by
    rw [UInt8.toNat_ofNat']
    omega
  rw [this]
theorem reads_bts : Reads Try.prog 69 Ty.bts := reads_sl reads_byte (by kernel_rfl) (by kernel_rfl) (by decide)
theorem reads_nets : Reads Try.prog 79 (Ty.sl Ty.bts) := reads_sl reads_bts (by kernel_rfl) (by kernel_rfl) (by decide)
end Go.Proofs.Ytgbhpghgohggcaa
