/- What the law ValueOwn computes answers as it says, in plain words: no program in sight. -/
import Derived.Test.YtinhpbmoiamepaaGreatDoorQ19
import Derived.Test.YtinhpbmoiamepaaGreatDoorPureSorted
import Derived.Test.YtinhpbmoiamepaaGreatDoorPureTame
namespace Go.Proofs.YtinhpbmoiamepaaGreatDoor
open Go.RowKit Go.Proofs.YtinhpbmoiamepaaGreatDoor.Q Go.Proofs.YtinhpbmoiamepaaGreatDoorW.PrintWords Go.Proofs.YtinhpbmoiamepaaGreatDoorW.PrintLast Go.Proofs.YtinhpbmoiamepaaGreatDoorW.PrintMore
set_option linter.unusedSimpArgs false

theorem wf_in2 {n : Int} (h : (Lit.int .i64 n).wf = true) : inI64 n = true := by
  have h2 := h
  simp [Lit.wf, IntKind.min, IntKind.max, IntKind.signed, IntKind.bits] at h2
  exact inI64_mk (by omega) (by omega)
theorem own_l2 (x : List V) (hx : x.length ≤ 20) : ∀ (d i k : Nat) (y : List V), i + d = y.length → y.length ≤ 20 → d + 30 < k → tacticianlaw01_ValueOwn.l2 k x x y (i : Int) = some true := by
  intro d
  induction d with
  | zero =>
    intro i k y hi hy hk
    obtain ⟨k, rfl⟩ : ∃ m, k = m + 1 := ⟨k - 1, by omega⟩
    simp only [tacticianlaw01_ValueOwn.l2]
    rw [if_neg (by omega), refSame x (by omega) k (by omega)]
    rfl
  | succ d ih =>
    intro i k y hi hy hk
    obtain ⟨k, rfl⟩ : ∃ m, k = m + 1 := ⟨k - 1, by omega⟩
    simp only [tacticianlaw01_ValueOwn.l2, tacticianref01_Int.f, Option.bind_some]
    rw [if_pos (by omega), if_pos (by omega), wrap_small (n := (i : Int) + 1) (by omega) (by omega), show ((i : Int) + 1) = ((i + 1 : Nat) : Int) by omega]
    exact ih (i + 1) k _ (by rw [List.length_set]; omega) (by rw [List.length_set]; exact hy) (by omega)
theorem own_l1 (x z : List V) (hx : x.length ≤ 20) (hz : z.length ≤ 20) : ∀ (d i k : Nat) (y : List V), i + d = y.length → y.length ≤ 20 → d + 60 < k → tacticianlaw01_ValueOwn.l1 k x x y z (i : Int) = some true := by
  intro d
  induction d with
  | zero =>
    intro i k y hi hy hk
    obtain ⟨k, rfl⟩ : ∃ m, k = m + 1 := ⟨k - 1, by omega⟩
    simp only [tacticianlaw01_ValueOwn.l1]
    rw [if_neg (by omega)]
    exact own_l2 x hx z.length 0 k z (by omega) hz (by omega)
  | succ d ih =>
    intro i k y hi hy hk
    obtain ⟨k, rfl⟩ : ∃ m, k = m + 1 := ⟨k - 1, by omega⟩
    simp only [tacticianlaw01_ValueOwn.l1, tacticianref01_Int.f, Option.bind_some]
    rw [if_pos (by omega), if_pos (by omega), wrap_small (n := (i : Int) + 1) (by omega) (by omega), show ((i : Int) + 1) = ((i + 1 : Nat) : Int) by omega]
    exact ih (i + 1) k _ (by rw [List.length_set]; omega) (by rw [List.length_set]; exact hy) (by omega)
theorem own_j1 (x : List V) (hx : x.length ≤ 20) (hv : ∀ v ∈ x, isV v = true) (k : Nat) (hk : 200 < k) : tacticianlaw01_ValueOwn.j1 k x = some true := by
  obtain ⟨k, rfl⟩ : ∃ m, k = m + 2 := ⟨k - 2, by omega⟩
  have hE : listE x = 0 := by
    unfold listE
    rw [if_neg (by omega), if_pos (List.all_eq_true.2 hv)]
  simp only [tacticianlaw01_ValueOwn.j1, Option.bind_some, List.nil_append, value_Sorted.f, value_Distinct.f]
  rw [if_pos (by simp only [List.length_nil]; omega), if_pos hE, if_pos hE]
  simp only [Option.bind_some, if_true]
  rw [refSame x (by omega) _ (by omega)]
  simp only [Option.bind_some, Bool.not_true, tacticianlaw01_ValueOwn.j2]
  rw [if_neg (by simp)]
  have h1 := sortV_length x
  have h2 := onceV_length (sortV x)
  exact own_l1 x (onceV (sortV x)) hx (by omega) (sortV x).length 0 k (sortV x) (by omega) (by omega) (by omega)
theorem own_l0 (l : List V) (hl : ∀ x ∈ l, (Lit.int .i64 x.f0).wf = true ∧ (Lit.int .i64 x.f1).wf = true ∧ x.f2.size ≤ 140737488351232) : ∀ (d i k : Nat) (x : List V), i + d = 20 → x.length = i → (∀ v ∈ x, isV v = true) → d + 300 < k →
    tacticianlaw01_ValueOwn.l0 k l x (i : Int) = some true := by
  intro d
  induction d with
  | zero =>
    intro i k x hi hx hv hk
    obtain ⟨k, rfl⟩ : ∃ m, k = m + 1 := ⟨k - 1, by omega⟩
    simp only [tacticianlaw01_ValueOwn.l0]
    rw [if_neg (show ¬ (i : Int) < 20 by omega)]
    have := own_j1 x (by omega) hv k (by omega)
    split <;> exact this
  | succ d ih =>
    intro i k x hi hx hv hk
    obtain ⟨k, rfl⟩ : ∃ m, k = m + 1 := ⟨k - 1, by omega⟩
    simp only [tacticianlaw01_ValueOwn.l0]
    by_cases hlt : i < l.length
    · obtain ⟨h0, h1, h2⟩ := hl l[i] (List.getElem_mem hlt)
      obtain ⟨a', b', c', ht, hok⟩ := tame_ok l[i].f0 l[i].f1 l[i].f2 (wf_in2 h1) (by omega) k (by omega)
      rw [if_pos (by omega), if_pos (by omega), if_pos (by omega), rd_at l i hlt, ht]
      simp only [Option.bind_some]
      rw [if_pos (by omega), wrap_small (n := (i : Int) + 1) (by omega) (by omega), show ((i : Int) + 1) = ((i + 1 : Nat) : Int) by omega]
      refine ih (i + 1) k _ (by omega) (by rw [List.length_append, List.length_singleton]; omega) (fun v hm => ?_) (by omega)
      rcases List.mem_append.1 hm with h | h
      · exact hv v h
      · rw [List.mem_singleton.1 h]
        unfold okV at hok
        rw [Bool.and_eq_true] at hok
        exact hok.1
    · rw [if_neg (by omega)]
      exact own_j1 x (by omega) hv k (by omega)
theorem pure_ValueOwn : ∀ (l0 : (List V)), (l0.length * 32 ≤ 140737488351232 ∧ l0.length ≤ maxLen ∧ ∀ x ∈ l0, (Lit.int .i64 x.f0).wf = true ∧ (Lit.int .i64 x.f1).wf = true ∧ x.f2.size ≤ 140737488351232) → ∃ k, Q.tacticianlaw01_ValueOwn.f k (l0) = some true := by
  intro l h
  exact ⟨400, own_l0 l h.2.2 20 0 400 [] rfl rfl (by simp) (by omega)⟩
end Go.Proofs.YtinhpbmoiamepaaGreatDoor
