/- What the law ValueForms computes answers as it says, in plain words: no program in sight. -/
import Derived.Test.YtinhpbmoiamepaaDoorQ18
import Derived.Test.YtinhpbmoiamepaaDoorPureCut
namespace Go.Proofs.YtinhpbmoiamepaaDoor
open Go.RowKit Go.Proofs.YtinhpbmoiamepaaDoor.Q Go.Proofs.YtinhpbmoiamepaaDoorW.PrintWords Go.Proofs.YtinhpbmoiamepaaDoorW.PrintLast Go.Proofs.YtinhpbmoiamepaaDoorW.PrintMore

theorem forms_j0 (k : Nat) (a b : V) (hb : a.f2.size ≤ 202 ∧ b.f2.size ≤ 202) :
    tacticianlaw01_ValueForms.j0 (k + 1) [a, b] (if isB a.f0 a.f1 a.f2 = true ∧ isB b.f0 b.f1 b.f2 = true then (ordV a.f0 a.f1 a.f2 b.f0 b.f1 b.f2, (0 : Int)) else (0, 10)).1 (if isB a.f0 a.f1 a.f2 = true ∧ isB b.f0 b.f1 b.f2 = true then (ordV a.f0 a.f1 a.f2 b.f0 b.f1 b.f2, (0 : Int)) else (0, 10)).2 false a.f0 a.f1 a.f2 b.f0 b.f1 b.f2 = some true := by
  simp only [tacticianlaw01_ValueForms.j0, tacticianref01_List_s.f, tacticianref01_Compare_s.f, Option.bind_some]
  rw [listE_two, if_neg (by simp), if_pos (show a.f2.size ≤ 4611686018427387904 ∧ b.f2.size ≤ 4611686018427387904 by omega)]
  by_cases h : isB a.f0 a.f1 a.f2 = true ∧ isB b.f0 b.f1 b.f2 = true
  · have h' : isV a = true ∧ isV b = true := h
    rw [if_pos h', if_pos h]
    simp [tacticianlaw01_awake.f]
  · have h' : ¬ (isV a = true ∧ isV b = true) := h
    rw [if_neg h', if_neg h]
    simp [tacticianlaw01_awake.f]
theorem pure_ValueForms : ∀ (a0 : V) (a1 : V), ((Lit.int .i64 a0.f0).wf = true ∧ (Lit.int .i64 a0.f1).wf = true ∧ a0.f2.size ≤ 140737488351232) → ((Lit.int .i64 a1.f0).wf = true ∧ (Lit.int .i64 a1.f1).wf = true ∧ a1.f2.size ≤ 140737488351232) → ∃ k, Q.tacticianlaw01_ValueForms.f k (a0.f0) (a0.f1) (a0.f2) (a1.f0) (a1.f1) (a1.f2) = some true := by
  intro v w hv hw
  refine ⟨10, ?_⟩
  have hc := cut_at [v, w] 2 10 (by omega) (by omega)
  have hin : inI64 (cutV v).f1 = true := wf_in hv.2.1
  have hz := cutV_size v
  have hz' := cutV_size w
  unfold tacticianlaw01_ValueForms.f
  rw [show (([(⟨v.f0, v.f1, v.f2⟩ : V), (⟨w.f0, w.f1, w.f2⟩ : V)] : List V)) = [v, w] from rfl, show (2 : Int) = ((2 : Nat) : Int) from rfl, hc]
  simp only [List.take_succ_cons, List.take_zero, List.map_cons, List.map_nil, Option.bind_some, List.length_cons, List.length_nil]
  generalize cutV v = a at hin hz
  generalize cutV w = b at hz'
  have e0 : rd_T25 [a, b] 0 = a := rd_at [a, b] 0 (by simp)
  have e1 : rd_T25 [a, b] 1 = b := rd_at [a, b] 1 (by simp)
  rw [if_pos (by omega), if_pos (by omega), if_pos (by omega), e0, e1, check_at, string_at _ _ _ hin, compare_at]
  simp only [tacticianref01_List_s.f, Option.bind_some]
  rw [listE_one, if_pos trivial]
  have hj := forms_j0 9 a b ⟨hz, hz'⟩
  by_cases h : isB a.f0 a.f1 a.f2 = true
  · have h' : isV a = true := h
    have hok : okV a.f0 a.f1 a.f2 = true := by unfold okV; rw [h, hin]; rfl
    rw [if_pos h', if_pos h]
    simp only [tacticianref01_String_s.f, if_true]
    rw [if_pos hok]
    simp only [Option.bind_some]
    rw [show ((writ a.f0 a.f1 a.f2).toList != (writ a.f0 a.f1 a.f2).toList) = false by simp]
    exact hj
  · have h' : ¬ isV a = true := h
    rw [if_neg h', if_neg h, if_neg (by omega), if_pos rfl, if_pos empty_toList]
    exact hj
end Go.Proofs.YtinhpbmoiamepaaDoor
