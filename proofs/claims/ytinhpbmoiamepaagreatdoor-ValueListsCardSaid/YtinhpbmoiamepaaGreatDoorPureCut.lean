/- What the law's own word Cut answers, in plain words. -/
import Derived.Test.YtinhpbmoiamepaaGreatDoorQ2
import Derived.Test.YtinhpbmoiamepaaGreatDoorPlainRead
namespace Go.Proofs.YtinhpbmoiamepaaGreatDoor
open Go.RowKit Go.Proofs.YtinhpbmoiamepaaGreatDoor.Q Go.Proofs.YtinhpbmoiamepaaGreatDoorW.PrintWords Go.Proofs.YtinhpbmoiamepaaGreatDoorW.PrintLast Go.Proofs.YtinhpbmoiamepaaGreatDoorW.PrintMore

theorem empty_toList : (⟨#[]⟩ : ByteArray).toList = [] := by rw [ByteArray.toList_eq]
theorem wf_in {n : Int} (h : (Lit.int .i64 n).wf = true) : inI64 n = true := by
  simp only [Lit.wf, Bool.and_eq_true, decide_eq_true_eq] at h
  have h0 : IntKind.min .i64 = -9223372036854775808 := rfl
  have h1 : IntKind.max .i64 = 9223372036854775807 := rfl
  exact inI64_mk (by omega) (by omega)
/-- a value with its text cut -/
def cutV (v : V) : V := ⟨v.f0, v.f1, v.f2.extract 0 (mn (v.f2.size : Int) 202).toNat⟩
theorem mn_le (n m : Int) (h : 0 ≤ n) (h' : 0 ≤ m) : 0 ≤ mn n m ∧ mn n m ≤ n ∧ mn n m ≤ m := by
  unfold mn
  split <;> omega
theorem cutV_size (v : V) : (cutV v).f2.size ≤ 202 := by
  have := mn_le (v.f2.size : Int) 202 (by omega) (by omega)
  show (v.f2.extract 0 _).size ≤ 202
  rw [ByteArray.size_extract]
  omega
theorem cut_loop (l : List V) (n : Nat) (hn : n ≤ 1000000) : ∀ (d i k : Nat), i + d = min l.length n → d < k →
    tacticianlaw01_Cut.l0 k l (n : Int) ((l.take i).map cutV) (i : Int) = some ((l.take n).map cutV) := by
  intro d
  induction d with
  | zero =>
    intro i k hi hk
    obtain ⟨k, rfl⟩ : ∃ m, k = m + 1 := ⟨k - 1, by omega⟩
    simp only [tacticianlaw01_Cut.l0]
    have e : l.take i = l.take n := by
      by_cases h : l.length ≤ n
      · rw [List.take_of_length_le (by omega), List.take_of_length_le h]
      · rw [show i = n by omega]
    by_cases h : i < l.length
    · rw [if_pos (by omega), if_neg (by omega), e]
    · rw [if_neg (by omega), e]
  | succ d ih =>
    intro i k hi hk
    obtain ⟨k, rfl⟩ : ∃ m, k = m + 1 := ⟨k - 1, by omega⟩
    have hlt : i < l.length := by omega
    have hm := mn_le (((l[i]).f2.size : Nat) : Int) 202 (by omega) (by omega)
    simp only [tacticianlaw01_Cut.l0]
    rw [rd_at l i hlt, if_pos (by omega), if_pos (by omega), if_pos (by omega), if_pos hm.1, if_pos hm.2.1, if_pos (by rw [List.length_map, List.length_take]; omega),
      wrap_small (n := (i : Int) + 1) (by omega) (by omega), show ((i : Int) + 1) = ((i + 1 : Nat) : Int) by omega]
    have := ih (i + 1) k (by omega) (by omega)
    rw [List.take_add_one, List.getElem?_eq_getElem hlt, Option.toList_some, List.map_append] at this
    exact this
theorem cut_at (l : List V) (n k : Nat) (hn : n ≤ 1000000) (hk : n < k) : tacticianlaw01_Cut.f k l (n : Int) = some ((l.take n).map cutV) := by
  unfold tacticianlaw01_Cut.f
  exact cut_loop l n hn (min l.length n) 0 k (by omega) (by omega)
theorem listE_one (v : V) : listE [v] = if isV v = true then 0 else 10 := by
  unfold listE
  simp
theorem listE_two (v w : V) : listE [v, w] = if isV v = true ∧ isV w = true then 0 else 10 := by
  unfold listE
  simp
end Go.Proofs.YtinhpbmoiamepaaGreatDoor
