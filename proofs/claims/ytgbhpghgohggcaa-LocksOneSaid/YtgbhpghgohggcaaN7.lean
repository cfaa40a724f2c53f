/- Walks: Hear of the document's answer, whatever comes. -/
import Derived.Test.YtgbhpghgohggcaaN610
import Derived.Test.YtgbhpghgohggcaaN6R
import Derived.Test.YtgbhpghgohggcaaN6N
import Derived.Test.YtgbhpghgohggcaaN6F
import Derived.Test.YtgbhpghgohggcaaN64R
import Derived.Test.YtgbhpghgohggcaaN64D
import Derived.Test.YtgbhpghgohggcaaN64N
import Derived.Test.YtgbhpghgohggcaaN65R
import Derived.Test.YtgbhpghgohggcaaN65N
import Derived.Test.YtgbhpghgohggcaaN6O
import Derived.Test.YtgbhpghgohggcaaS5
namespace Go.Proofs.Ytgbhpghgohggcaa
open Go.RowKit
theorem ref_hear {c : CM} {v vm : Value} {h : Hs} {m : Ms} {me : Int} (w : World) (hc : Sub c w.cell?) (hv : Of Ty.hs c v h) (hm : Of Ty.ms c vm m) (hk : ∀ x ∈ h.log, KeysOk x.parts) (hkm : KeysOk m.parts) (hn : (h.log.length + 1) * 40 ≤ 140737488355328) (hme : I64 me) (hmd : Made h) :
    Calls Try.prog 35 #[v, .int .i64 me, vm] w fun e w' => ∃ v1 v2, e = .returned (.tuple #[v1, v2]) ∧ Of Ty.hs (ov c w w') v1 (hearH h m) ∧ Sl Ty.ms (ov c w w') v2 (hearM h me m) ∧ Grow w w' := by
  obtain ⟨kd, dd, hh, ps⟩ := m
  by_cases h1 : kd = 1
  · subst h1
    by_cases e10 : voteE h dd ps = 10
    · exact hear_prep10 w hc hv hm hk hkm hn hme e10
    by_cases e0 : voteE h dd ps = 0
    · cases rd : readyE h.ready dd with
      | true => exact hear_prepR w hc hv hm hk hkm hn hme e0 rd
      | false => exact hear_prepN w hc hv hm hk hkm hn hme e0 rd
    · exact hear_prepF w hc hv hm hk hkm hn hme e10 e0
  by_cases h4 : kd = 4
  · subst h4
    cases rd : readyE h.ready dd with
    | true => exact hear_com4R w hc hv hm hk hkm hn hme rd (by rw [(note2 hmd rd).2]; simp)
    | false =>
      by_cases hin : dd ∈ h.done
      · exact hear_com4D w hc hv hm hk hkm hn hme rd hin
      · exact hear_com4N w hc hv hm hk hkm hn hme rd hin
  by_cases h5 : kd = 5
  · subst h5
    cases rd : readyE h.ready dd with
    | true => exact hear_abo5R w hc hv hm hk hkm hn hme rd
    | false => exact hear_abo5N w hc hv hm hk hkm hn hme rd
  · exact hear_oth w hc hv hm hk hkm hn hme h1 h4 h5
end Go.Proofs.Ytgbhpghgohggcaa
