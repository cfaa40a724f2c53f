/- The program's structs as plain structures, and how their cells read. -/
import Derived.Test.YtgbhpghgohggcaaBase
namespace Go.Proofs.Ytgbhpghgohggcaa
open Go.RowKit
abbrev Ty.pts := Ty.sl Ty.pt

structure Rc where
  kind : Int
  deed : Int
  parts : List Pt
  deriving DecidableEq
def Ty.rc : Ty Rc where
  size := 3
  R := fun c cs x => ∃ vparts : Value, cs = [.int .i64 x.kind, .int .i64 x.deed, vparts] ∧ I64 x.kind ∧ I64 x.deed ∧ Sl Ty.pt c vparts x.parts
  len := by rintro c cs x ⟨vparts, rfl, _⟩; rfl
  mono := by rintro c c' cs x h ⟨vparts, rfl, h1, h2, h3⟩; exact ⟨vparts, rfl, h1, h2, h3.mono h⟩
abbrev Rcs := Sl Ty.rc
theorem Rcs.at_ {c : CM} {a : Option Addr} {l : List Rc} (h : ∀ i x, l[i]? = some x → ∃ b o cs, a = some ⟨b, o, none⟩ ∧ Ty.rc.R c cs x ∧ At c b (o + i * Ty.rc.size) cs) (k : Nat) (hk : k < l.length) :
    ∃ b o vparts , a = some ⟨b, o, none⟩ ∧ c ⟨b, o + k * 3, none⟩ = some (.int .i64 l[k].kind) ∧ c ⟨b, o + k * 3 + 1, none⟩ = some (.int .i64 l[k].deed) ∧ c ⟨b, o + k * 3 + 2, none⟩ = some vparts ∧ I64 l[k].kind ∧ I64 l[k].deed ∧ Sl Ty.pt c vparts l[k].parts := by
  obtain ⟨b, o, cs, ha, ⟨vparts, rfl, hR⟩, hA⟩ := h k l[k] (by simp [hk])
  exact ⟨b, o, vparts, ha, hA 0 _ rfl, hA 1 _ rfl, hA 2 _ rfl, hR⟩

structure Rd where
  deed : Int
  parts : List Pt
  deriving DecidableEq
def Ty.rd : Ty Rd where
  size := 2
  R := fun c cs x => ∃ vparts : Value, cs = [.int .i64 x.deed, vparts] ∧ I64 x.deed ∧ Sl Ty.pt c vparts x.parts
  len := by rintro c cs x ⟨vparts, rfl, _⟩; rfl
  mono := by rintro c c' cs x h ⟨vparts, rfl, h1, h2⟩; exact ⟨vparts, rfl, h1, h2.mono h⟩
abbrev Rds := Sl Ty.rd
theorem Rds.at_ {c : CM} {a : Option Addr} {l : List Rd} (h : ∀ i x, l[i]? = some x → ∃ b o cs, a = some ⟨b, o, none⟩ ∧ Ty.rd.R c cs x ∧ At c b (o + i * Ty.rd.size) cs) (k : Nat) (hk : k < l.length) :
    ∃ b o vparts , a = some ⟨b, o, none⟩ ∧ c ⟨b, o + k * 2, none⟩ = some (.int .i64 l[k].deed) ∧ c ⟨b, o + k * 2 + 1, none⟩ = some vparts ∧ I64 l[k].deed ∧ Sl Ty.pt c vparts l[k].parts := by
  obtain ⟨b, o, cs, ha, ⟨vparts, rfl, hR⟩, hA⟩ := h k l[k] (by simp [hk])
  exact ⟨b, o, vparts, ha, hA 0 _ rfl, hA 1 _ rfl, hR⟩

structure Opn where
  deed : Int
  parts : List Pt
  dec : Bool
  heard : List Int
  deriving DecidableEq
def Ty.opn : Ty Opn where
  size := 4
  R := fun c cs x => ∃ vparts vheard : Value, cs = [.int .i64 x.deed, vparts, .bool x.dec, vheard] ∧ I64 x.deed ∧ Sl Ty.pt c vparts x.parts ∧ Sl Ty.int c vheard x.heard
  len := by rintro c cs x ⟨vparts, vheard, rfl, _⟩; rfl
  mono := by rintro c c' cs x h ⟨vparts, vheard, rfl, h1, h2, h3⟩; exact ⟨vparts, vheard, rfl, h1, h2.mono h, h3.mono h⟩
abbrev Opns := Sl Ty.opn
theorem Opns.at_ {c : CM} {a : Option Addr} {l : List Opn} (h : ∀ i x, l[i]? = some x → ∃ b o cs, a = some ⟨b, o, none⟩ ∧ Ty.opn.R c cs x ∧ At c b (o + i * Ty.opn.size) cs) (k : Nat) (hk : k < l.length) :
    ∃ b o vparts vheard , a = some ⟨b, o, none⟩ ∧ c ⟨b, o + k * 4, none⟩ = some (.int .i64 l[k].deed) ∧ c ⟨b, o + k * 4 + 1, none⟩ = some vparts ∧ c ⟨b, o + k * 4 + 2, none⟩ = some (.bool l[k].dec) ∧ c ⟨b, o + k * 4 + 3, none⟩ = some vheard ∧ I64 l[k].deed ∧ Sl Ty.pt c vparts l[k].parts ∧ Sl Ty.int c vheard l[k].heard := by
  obtain ⟨b, o, cs, ha, ⟨vparts, vheard, rfl, hR⟩, hA⟩ := h k l[k] (by simp [hk])
  exact ⟨b, o, vparts, vheard, ha, hA 0 _ rfl, hA 1 _ rfl, hA 2 _ rfl, hA 3 _ rfl, hR⟩

structure Ms where
  kind : Int
  deed : Int
  house : Int
  parts : List Pt
  deriving DecidableEq
def Ty.ms : Ty Ms where
  size := 4
  R := fun c cs x => ∃ vparts : Value, cs = [.int .i64 x.kind, .int .i64 x.deed, .int .i64 x.house, vparts] ∧ I64 x.kind ∧ I64 x.deed ∧ I64 x.house ∧ Sl Ty.pt c vparts x.parts
  len := by rintro c cs x ⟨vparts, rfl, _⟩; rfl
  mono := by rintro c c' cs x h ⟨vparts, rfl, h1, h2, h3, h4⟩; exact ⟨vparts, rfl, h1, h2, h3, h4.mono h⟩
abbrev Mss := Sl Ty.ms
theorem Mss.at_ {c : CM} {a : Option Addr} {l : List Ms} (h : ∀ i x, l[i]? = some x → ∃ b o cs, a = some ⟨b, o, none⟩ ∧ Ty.ms.R c cs x ∧ At c b (o + i * Ty.ms.size) cs) (k : Nat) (hk : k < l.length) :
    ∃ b o vparts , a = some ⟨b, o, none⟩ ∧ c ⟨b, o + k * 4, none⟩ = some (.int .i64 l[k].kind) ∧ c ⟨b, o + k * 4 + 1, none⟩ = some (.int .i64 l[k].deed) ∧ c ⟨b, o + k * 4 + 2, none⟩ = some (.int .i64 l[k].house) ∧ c ⟨b, o + k * 4 + 3, none⟩ = some vparts ∧ I64 l[k].kind ∧ I64 l[k].deed ∧ I64 l[k].house ∧ Sl Ty.pt c vparts l[k].parts := by
  obtain ⟨b, o, cs, ha, ⟨vparts, rfl, hR⟩, hA⟩ := h k l[k] (by simp [hk])
  exact ⟨b, o, vparts, ha, hA 0 _ rfl, hA 1 _ rfl, hA 2 _ rfl, hA 3 _ rfl, hR⟩

structure St where
  kind : Int
  n : Int
  parts : List Pt
  deriving DecidableEq
def Ty.st : Ty St where
  size := 3
  R := fun c cs x => ∃ vparts : Value, cs = [.int .i64 x.kind, .int .i64 x.n, vparts] ∧ I64 x.kind ∧ I64 x.n ∧ Sl Ty.pt c vparts x.parts
  len := by rintro c cs x ⟨vparts, rfl, _⟩; rfl
  mono := by rintro c c' cs x h ⟨vparts, rfl, h1, h2, h3⟩; exact ⟨vparts, rfl, h1, h2, h3.mono h⟩
abbrev Sts := Sl Ty.st
theorem Sts.at_ {c : CM} {a : Option Addr} {l : List St} (h : ∀ i x, l[i]? = some x → ∃ b o cs, a = some ⟨b, o, none⟩ ∧ Ty.st.R c cs x ∧ At c b (o + i * Ty.st.size) cs) (k : Nat) (hk : k < l.length) :
    ∃ b o vparts , a = some ⟨b, o, none⟩ ∧ c ⟨b, o + k * 3, none⟩ = some (.int .i64 l[k].kind) ∧ c ⟨b, o + k * 3 + 1, none⟩ = some (.int .i64 l[k].n) ∧ c ⟨b, o + k * 3 + 2, none⟩ = some vparts ∧ I64 l[k].kind ∧ I64 l[k].n ∧ Sl Ty.pt c vparts l[k].parts := by
  obtain ⟨b, o, cs, ha, ⟨vparts, rfl, hR⟩, hA⟩ := h k l[k] (by simp [hk])
  exact ⟨b, o, vparts, ha, hA 0 _ rfl, hA 1 _ rfl, hA 2 _ rfl, hR⟩

structure Hs where
  log : List Rc
  sums : Sm
  ready : List Rd
  done : List Int
  deriving DecidableEq
def Ty.hs : Ty Hs where
  size := 7
  R := fun c cs x => ∃ vlog vready vdone : Value, cs = [vlog, .int .i64 x.sums.a, .int .i64 x.sums.b, .int .i64 x.sums.c, .int .i64 x.sums.d, vready, vdone] ∧ Sl Ty.rc c vlog x.log ∧ I64 x.sums.a ∧ I64 x.sums.b ∧ I64 x.sums.c ∧ I64 x.sums.d ∧ Sl Ty.rd c vready x.ready ∧ Sl Ty.int c vdone x.done
  len := by rintro c cs x ⟨vlog, vready, vdone, rfl, _⟩; rfl
  mono := by rintro c c' cs x h ⟨vlog, vready, vdone, rfl, h1, h2, h3, h4, h5, h6, h7⟩; exact ⟨vlog, vready, vdone, rfl, h1.mono h, h2, h3, h4, h5, h6.mono h, h7.mono h⟩
abbrev Hss := Sl Ty.hs
theorem Hss.at_ {c : CM} {a : Option Addr} {l : List Hs} (h : ∀ i x, l[i]? = some x → ∃ b o cs, a = some ⟨b, o, none⟩ ∧ Ty.hs.R c cs x ∧ At c b (o + i * Ty.hs.size) cs) (k : Nat) (hk : k < l.length) :
    ∃ b o vlog vready vdone , a = some ⟨b, o, none⟩ ∧ c ⟨b, o + k * 7, none⟩ = some vlog ∧ c ⟨b, o + k * 7 + 1, none⟩ = some (.int .i64 l[k].sums.a) ∧ c ⟨b, o + k * 7 + 2, none⟩ = some (.int .i64 l[k].sums.b) ∧ c ⟨b, o + k * 7 + 3, none⟩ = some (.int .i64 l[k].sums.c) ∧ c ⟨b, o + k * 7 + 4, none⟩ = some (.int .i64 l[k].sums.d) ∧ c ⟨b, o + k * 7 + 5, none⟩ = some vready ∧ c ⟨b, o + k * 7 + 6, none⟩ = some vdone ∧ Sl Ty.rc c vlog l[k].log ∧ I64 l[k].sums.a ∧ I64 l[k].sums.b ∧ I64 l[k].sums.c ∧ I64 l[k].sums.d ∧ Sl Ty.rd c vready l[k].ready ∧ Sl Ty.int c vdone l[k].done := by
  obtain ⟨b, o, cs, ha, ⟨vlog, vready, vdone, rfl, hR⟩, hA⟩ := h k l[k] (by simp [hk])
  exact ⟨b, o, vlog, vready, vdone, ha, hA 0 _ rfl, hA 1 _ rfl, hA 2 _ rfl, hA 3 _ rfl, hA 4 _ rfl, hA 5 _ rfl, hA 6 _ rfl, hR⟩

structure Hd where
  log : List Rc
  boot : Int
  next : Int
  opn : List Opn
  deriving DecidableEq
def Ty.hd : Ty Hd where
  size := 4
  R := fun c cs x => ∃ vlog vopn : Value, cs = [vlog, .int .i64 x.boot, .int .i64 x.next, vopn] ∧ Sl Ty.rc c vlog x.log ∧ I64 x.boot ∧ I64 x.next ∧ Sl Ty.opn c vopn x.opn
  len := by rintro c cs x ⟨vlog, vopn, rfl, _⟩; rfl
  mono := by rintro c c' cs x h ⟨vlog, vopn, rfl, h1, h2, h3, h4⟩; exact ⟨vlog, vopn, rfl, h1.mono h, h2, h3, h4.mono h⟩
abbrev Hds := Sl Ty.hd
theorem Hds.at_ {c : CM} {a : Option Addr} {l : List Hd} (h : ∀ i x, l[i]? = some x → ∃ b o cs, a = some ⟨b, o, none⟩ ∧ Ty.hd.R c cs x ∧ At c b (o + i * Ty.hd.size) cs) (k : Nat) (hk : k < l.length) :
    ∃ b o vlog vopn , a = some ⟨b, o, none⟩ ∧ c ⟨b, o + k * 4, none⟩ = some vlog ∧ c ⟨b, o + k * 4 + 1, none⟩ = some (.int .i64 l[k].boot) ∧ c ⟨b, o + k * 4 + 2, none⟩ = some (.int .i64 l[k].next) ∧ c ⟨b, o + k * 4 + 3, none⟩ = some vopn ∧ Sl Ty.rc c vlog l[k].log ∧ I64 l[k].boot ∧ I64 l[k].next ∧ Sl Ty.opn c vopn l[k].opn := by
  obtain ⟨b, o, cs, ha, ⟨vlog, vopn, rfl, hR⟩, hA⟩ := h k l[k] (by simp [hk])
  exact ⟨b, o, vlog, vopn, ha, hA 0 _ rfl, hA 1 _ rfl, hA 2 _ rfl, hA 3 _ rfl, hR⟩

abbrev Ty.bts := Ty.sl Ty.byte
abbrev Nets := Sl Ty.bts
structure Wd where
  head : Hd
  houses : List Hs
  net : List (List UInt8)
  deriving DecidableEq
/-- a struct by value -/
def Of {α : Type} (T : Ty α) (c : CM) (v : Value) (x : α) : Prop := ∃ cs : List Value, v = .agg cs.toArray ∧ T.R c cs x
theorem Of.mono {α : Type} {T : Ty α} {c c' : CM} {v : Value} {x : α} (h : Sub c c') (k : Of T c v x) : Of T c' v x := by
  obtain ⟨cs, rfl, hR⟩ := k
  exact ⟨cs, rfl, T.mono h hR⟩
theorem netAt {c : CM} {a : Option Addr} {l : List (List UInt8)} (h : ∀ i x, l[i]? = some x → ∃ b o cs, a = some ⟨b, o, none⟩ ∧ Ty.bts.R c cs x ∧ At c b (o + i * Ty.bts.size) cs) (k : Nat) (hk : k < l.length) :
    ∃ b o v, a = some ⟨b, o, none⟩ ∧ c ⟨b, o + k, none⟩ = some v ∧ Bts c v l[k] := by
  obtain ⟨b, o, cs, ha, ⟨v, rfl, hR⟩, hA⟩ := h k l[k] (by simp [hk])
  refine ⟨b, o, v, ha, ?_, hR⟩
  have := hA 0 v rfl
  simpa [Ty.bts, Ty.sl] using this
theorem intAt {c : CM} {a : Option Addr} {l : List Int} (h : ∀ i x, l[i]? = some x → ∃ b o cs, a = some ⟨b, o, none⟩ ∧ Ty.int.R c cs x ∧ At c b (o + i * Ty.int.size) cs) (k : Nat) (hk : k < l.length) :
    ∃ b o, a = some ⟨b, o, none⟩ ∧ c ⟨b, o + k, none⟩ = some (.int .i64 l[k]) ∧ I64 l[k] := by
  obtain ⟨b, o, cs, ha, ⟨rfl, hR⟩, hA⟩ := h k l[k] (by simp [hk])
  refine ⟨b, o, ha, ?_, hR⟩
  have := hA 0 _ rfl
  simpa [Ty.int] using this
theorem byteAt {c : CM} {a : Option Addr} {l : List UInt8} (h : ∀ i x, l[i]? = some x → ∃ b o cs, a = some ⟨b, o, none⟩ ∧ Ty.byte.R c cs x ∧ At c b (o + i * Ty.byte.size) cs) (k : Nat) (hk : k < l.length) :
    ∃ b o, a = some ⟨b, o, none⟩ ∧ c ⟨b, o + k, none⟩ = some (.int .u8 (l[k].toNat : Int)) := by
  obtain ⟨b, o, cs, ha, rfl, hA⟩ := h k l[k] (by simp [hk])
  refine ⟨b, o, ha, ?_⟩
  have := hA 0 _ rfl
  simpa [Ty.byte] using this
theorem smAt {c : CM} {a : Option Addr} {l : List Sm} (h : ∀ i x, l[i]? = some x → ∃ b o cs, a = some ⟨b, o, none⟩ ∧ Ty.sm.R c cs x ∧ At c b (o + i * Ty.sm.size) cs) (k : Nat) (hk : k < l.length) :
    ∃ b o, a = some ⟨b, o, none⟩ ∧ c ⟨b, o + k * 4, none⟩ = some (.int .i64 l[k].a) ∧ c ⟨b, o + k * 4 + 1, none⟩ = some (.int .i64 l[k].b) ∧ c ⟨b, o + k * 4 + 2, none⟩ = some (.int .i64 l[k].c) ∧ c ⟨b, o + k * 4 + 3, none⟩ = some (.int .i64 l[k].d) ∧ I64 l[k].a ∧ I64 l[k].b ∧ I64 l[k].c ∧ I64 l[k].d := by
  obtain ⟨b, o, cs, ha, ⟨rfl, hR⟩, hA⟩ := h k l[k] (by simp [hk])
  exact ⟨b, o, ha, hA 0 _ rfl, hA 1 _ rfl, hA 2 _ rfl, hA 3 _ rfl, hR⟩
end Go.Proofs.Ytgbhpghgohggcaa
