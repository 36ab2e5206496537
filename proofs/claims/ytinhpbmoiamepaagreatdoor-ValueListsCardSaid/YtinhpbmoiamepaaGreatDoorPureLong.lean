/- How long a list that is made long is, in plain words: no program in sight. -/
import Derived.Test.YtinhpbmoiamepaaGreatDoorQ2
import Derived.Test.YtinhpbmoiamepaaGreatDoorPlain
namespace Go.Proofs.YtinhpbmoiamepaaGreatDoor
open Go.RowKit Go.Proofs.YtinhpbmoiamepaaGreatDoor.Q Go.Proofs.YtinhpbmoiamepaaGreatDoorW.PrintWords Go.Proofs.YtinhpbmoiamepaaGreatDoorW.PrintLast Go.Proofs.YtinhpbmoiamepaaGreatDoorW.PrintMore
set_option linter.unusedSimpArgs false

theorem long_loop (l : List V) (h0 : l.length ≤ 40) (b : Bool) : ∀ (d k : Nat) (out : List V), 20001 ≤ out.length + d → out.length ≤ 20040 → d < k →
    ∃ m, tacticianlaw01_Long.l0 k l b out = some m ∧ m.length ≤ 20040 := by
  intro d
  induction d with
  | zero =>
    intro k out hi ho hk
    obtain ⟨k, rfl⟩ : ∃ m, k = m + 1 := ⟨k - 1, by omega⟩
    refine ⟨out, ?_, ho⟩
    simp only [tacticianlaw01_Long.l0]
    rw [if_neg (show ¬ (out.length : Int) ≤ 20000 by omega)]
    split
    · split <;> rfl
    · rfl
  | succ d ih =>
    intro k out hi ho hk
    obtain ⟨k, rfl⟩ : ∃ m, k = m + 1 := ⟨k - 1, by omega⟩
    simp only [tacticianlaw01_Long.l0]
    by_cases hb : b = true
    · rw [if_pos hb]
      by_cases h1 : l.length = 0
      · rw [if_neg (by omega)]; exact ⟨out, rfl, ho⟩
      · rw [if_pos (by omega)]
        by_cases h2 : out.length ≤ 20000
        · rw [if_pos (by omega), if_pos (by omega)]
          exact ih k _ (by rw [List.length_append]; omega) (by rw [List.length_append]; omega) (by omega)
        · rw [if_neg (by omega)]; exact ⟨out, rfl, ho⟩
    · rw [if_neg hb]; exact ⟨out, rfl, ho⟩
theorem long_at (l : List V) (h0 : l.length ≤ 40) (b : Bool) (k : Nat) (hk : 20001 < k) : ∃ m, tacticianlaw01_Long.f k l b = some m ∧ m.length ≤ 20040 := by
  unfold tacticianlaw01_Long.f
  simp only [Option.bind_some]
  rw [if_pos (by simp only [List.length_nil]; omega)]
  exact long_loop l h0 b 20001 k _ (by simp) (by simp; omega) hk
end Go.Proofs.YtinhpbmoiamepaaGreatDoor
