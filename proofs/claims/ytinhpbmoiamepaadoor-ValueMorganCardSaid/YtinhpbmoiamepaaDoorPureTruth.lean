/- What the program's own And, Or, Not answer, in plain words: no program in sight. -/
import Derived.Test.YtinhpbmoiamepaaDoorQ8
import Derived.Test.YtinhpbmoiamepaaDoorQ8
import Derived.Test.YtinhpbmoiamepaaDoorQ10
namespace Go.Proofs.YtinhpbmoiamepaaDoor
open Go.RowKit Go.Proofs.YtinhpbmoiamepaaDoor.Q Go.Proofs.YtinhpbmoiamepaaDoorW.PrintWords Go.Proofs.YtinhpbmoiamepaaDoorW.PrintLast Go.Proofs.YtinhpbmoiamepaaDoorW.PrintMore
set_option linter.unusedSimpArgs false

theorem joinV_eq (d0 d1 : Int) (d2 : ByteArray) : ∀ (l : List V) (s0 s1 : Int) (s2 : ByteArray),
    joinV s0 s1 s2 d0 d1 d2 l = if (l.any fun v => eqV v d0 d1 d2) = true then (d0, d1, d2) else if (l.any fun v => decide (v.f0 = 0)) = true then (0, 0, ⟨#[]⟩) else (s0, s1, s2) := by
  intro l
  induction l with
  | nil => intro s0 s1 s2; rfl
  | cons v r ih =>
    intro s0 s1 s2
    rw [joinV]
    by_cases h : eqV v d0 d1 d2 = true
    · have e1 : ((v :: r).any fun v => eqV v d0 d1 d2) = true := by rw [List.any_cons, h]; rfl
      rw [if_pos h, if_pos e1]
    · have e1 : ((v :: r).any fun v => eqV v d0 d1 d2) = r.any fun v => eqV v d0 d1 d2 := by rw [List.any_cons]; simp [h]
      rw [if_neg h, e1]
      by_cases h0 : v.f0 = 0
      · have e2 : ((v :: r).any fun v => decide (v.f0 = 0)) = true := by rw [List.any_cons]; simp [h0]
        rw [if_pos h0, ih, if_pos e2]
        split
        · rfl
        · split <;> rfl
      · have e2 : ((v :: r).any fun v => decide (v.f0 = 0)) = r.any fun v => decide (v.f0 = 0) := by rw [List.any_cons]; simp [h0]
        rw [if_neg h0, ih, e2]
/-- the program's own And, Or, Not -/
theorem vand_at (l : List V) (hl : l.length ≤ 1000000) : value_And.f l = some (if truthsE l = 0 then ((joinV 2 1 ⟨#[]⟩ 2 0 ⟨#[]⟩ l).1, (joinV 2 1 ⟨#[]⟩ 2 0 ⟨#[]⟩ l).2.1, (joinV 2 1 ⟨#[]⟩ 2 0 ⟨#[]⟩ l).2.2, (0 : Int)) else (0, 0, ⟨#[]⟩, truthsE l)) := by
  unfold value_And.f value_truths.f value_All.f value_True.f value_False.f value_joined_s.f
  simp only [Option.bind_some]
  rw [if_pos (show l.length ≤ 4611686018427387904 by omega)]
  split <;> rfl
theorem vor_at (l : List V) (hl : l.length ≤ 1000000) : value_Or.f l = some (if truthsE l = 0 then ((joinV 2 0 ⟨#[]⟩ 2 1 ⟨#[]⟩ l).1, (joinV 2 0 ⟨#[]⟩ 2 1 ⟨#[]⟩ l).2.1, (joinV 2 0 ⟨#[]⟩ 2 1 ⟨#[]⟩ l).2.2, (0 : Int)) else (0, 0, ⟨#[]⟩, truthsE l)) := by
  unfold value_Or.f value_truths.f value_Some.f value_True.f value_False.f value_joined_s.f
  simp only [Option.bind_some]
  rw [if_pos (show l.length ≤ 4611686018427387904 by omega)]
  split <;> rfl
/-- truth turned round -/
def notV (a b : Int) (c : ByteArray) : Int × Int × ByteArray := if a = 0 then (a, b, c) else (2, if b = 0 then 1 else 0, ⟨#[]⟩)
theorem vnot_at (a b : Int) (c : ByteArray) : value_Not.f a b c = some (if truthsE [⟨a, b, c⟩] = 0 then ((notV a b c).1, (notV a b c).2.1, (notV a b c).2.2, (0 : Int)) else (0, 0, ⟨#[]⟩, truthsE [⟨a, b, c⟩])) := by
  unfold value_Not.f value_truths.f value_Turned.f value_Truth.f value_True.f value_False.f notV
  simp only [Option.bind_some]
  by_cases h : a = 0
  · rw [if_pos h]
    simp only [if_pos h, Option.bind_some]
    split <;> rfl
  · rw [if_neg h]
    simp only [if_neg h]
    by_cases h1 : b = 0
    · subst h1
      simp
      split <;> rfl
    · simp [h1]
      split <;> rfl
theorem listE_le (l : List V) : listE l = 2 ∨ listE l = 0 ∨ listE l = 10 := by
  unfold listE
  split
  · exact .inl rfl
  · split
    · exact .inr (.inl rfl)
    · exact .inr (.inr rfl)
theorem listE_all {l : List V} (h : listE l = 0) : l.all isV = true := by
  unfold listE at h
  split at h
  · cases h
  · split at h
    · assumption
    · cases h
theorem truthsE_listE {l : List V} (h : truthsE l = 0) : listE l = 0 := by
  unfold truthsE at h
  split at h
  · assumption
  · rename_i h1; exact absurd h h1
theorem eq_self (a : Int) (b : Int) (c : ByteArray) : (a == a && (b == b && (c.toList == c.toList))) = true := by simp
theorem ne_self (a : Int) (b : Int) (c : ByteArray) : (!(a == a) || (!(b == b) || (!(c.toList == c.toList)))) = false := by simp
end Go.Proofs.YtinhpbmoiamepaaDoor
