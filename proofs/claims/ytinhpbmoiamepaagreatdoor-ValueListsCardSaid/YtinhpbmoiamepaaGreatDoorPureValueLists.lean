/- What the law ValueLists computes answers as it says, in plain words: no program in sight. -/
import Derived.Test.YtinhpbmoiamepaaGreatDoorQ17
import Derived.Test.YtinhpbmoiamepaaGreatDoorPureSorted
import Derived.Test.YtinhpbmoiamepaaGreatDoorPureCut
import Derived.Test.YtinhpbmoiamepaaGreatDoorPureLong
namespace Go.Proofs.YtinhpbmoiamepaaGreatDoor
open Go.RowKit Go.Proofs.YtinhpbmoiamepaaGreatDoor.Q Go.Proofs.YtinhpbmoiamepaaGreatDoorW.PrintWords Go.Proofs.YtinhpbmoiamepaaGreatDoorW.PrintLast Go.Proofs.YtinhpbmoiamepaaGreatDoorW.PrintMore
set_option linter.unusedSimpArgs false

theorem listE_len {l : List V} (h : listE l = 0) : l.length ≤ 20000 ∧ ∀ v ∈ l, isV v = true := by
  unfold listE at h
  by_cases h1 : 20000 < l.length
  · rw [if_pos h1] at h; cases h
  · rw [if_neg h1] at h
    by_cases h2 : l.all isV = true
    · exact ⟨by omega, List.all_eq_true.1 h2⟩
    · rw [if_neg h2] at h; cases h
theorem pure_ValueLists : ∀ (l0 : (List V)) (a1 : Bool), (l0.length * 32 ≤ 140737488351232 ∧ l0.length ≤ maxLen ∧ ∀ x ∈ l0, (Lit.int .i64 x.f0).wf = true ∧ (Lit.int .i64 x.f1).wf = true ∧ x.f2.size ≤ 140737488351232) → ∃ k, Q.tacticianlaw01_ValueLists.f k (l0) (a1) = some true := by
  intro l b _
  refine ⟨50000, ?_⟩
  unfold tacticianlaw01_ValueLists.f
  have hc := cut_at l 40 50000 (by omega) (by omega)
  rw [show (40 : Int) = ((40 : Nat) : Int) from rfl, hc]
  simp only [Option.bind_some]
  obtain ⟨L, e, hL⟩ := long_at ((l.take 40).map cutV) (by rw [List.length_map, List.length_take]; omega) b 50000 (by omega)
  rw [e]
  simp only [Option.bind_some, tacticianref01_List_s.f, value_Sorted.f, value_Distinct.f]
  by_cases h : listE L = 0
  · obtain ⟨h1, h2⟩ := listE_len h
    rw [if_pos h, if_pos h]
    simp only [Option.bind_some]
    rw [if_pos h]
    have hs : ∀ v ∈ L, Sm v := fun v hv => isV_small (h2 v hv)
    rw [refSorted L (by omega) hs 50000 (by omega), refDistinct L (by omega) hs 50000 (by omega)]
    simp only [Option.bind_some]
    have hl1 := sortV_length L
    have hl2 := onceV_length (sortV L)
    rw [refSame (sortV L) (by omega) 50000 (by omega), refSame (onceV (sortV L)) (by omega) 50000 (by omega)]
    rfl
  · rw [if_neg h, if_neg h]
    simp only [Option.bind_some]
    rw [if_neg h]
    simp [tacticianlaw01_awake.f]
end Go.Proofs.YtinhpbmoiamepaaGreatDoor
