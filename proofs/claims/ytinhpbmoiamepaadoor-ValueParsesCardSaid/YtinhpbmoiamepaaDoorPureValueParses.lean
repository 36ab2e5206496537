/- What the law ValueParses computes answers as it says, in plain words: no program in sight. -/
import Derived.Test.YtinhpbmoiamepaaDoorQ15
import Derived.Test.YtinhpbmoiamepaaDoorPureRef01
namespace Go.Proofs.YtinhpbmoiamepaaDoor
open Go.RowKit Go.Proofs.YtinhpbmoiamepaaDoor.Q Go.Proofs.YtinhpbmoiamepaaDoorW.PrintWords Go.Proofs.YtinhpbmoiamepaaDoorW.PrintLast Go.Proofs.YtinhpbmoiamepaaDoorW.PrintMore

theorem empty_toList : (⟨#[]⟩ : ByteArray).toList = [] := by rw [ByteArray.toList_eq]
theorem writ_size {a b : Int} {c : ByteArray} (h : okV a b c = true) : (writ a b c).size ≤ 402 := by
  unfold writ
  rw [ofL_size]
  rcases okV_cases h with ⟨rfl, rfl, rfl⟩ | ⟨rfl, hi, rfl⟩ | ⟨rfl, rfl | rfl, rfl⟩ | ⟨rfl, rfl, hs, hp⟩
  · decide
  · show (Lib.itoa b).length ≤ 402
    have := itoa_len b hi
    omega
  · decide
  · decide
  · have h1 := dbl_le c.data.toList
    have h2 : c.data.toList.length = c.size := Array.length_toList
    show (39 :: (dbl c.data.toList ++ [39])).length ≤ 402
    simp only [List.length_cons, List.length_append, List.length_nil]
    omega
theorem strOf_size (l : List Int) : (strOfNums l).size = l.length := by
  unfold strOfNums
  show (l.map _).toArray.size = _
  simp
theorem read_long (s : ByteArray) (h : 402 < s.size) : readC s = (0, 0, ⟨#[]⟩, false) := by
  cases hr : readC s with
  | mk a r =>
    obtain ⟨b, c, o⟩ := r
    cases o with
    | true =>
      obtain ⟨z1, z2⟩ := readC_true s hr
      have := writ_size z1
      rw [z2] at this
      omega
    | false =>
      obtain ⟨rfl, rfl, rfl⟩ := readC_false s hr
      rfl
theorem parse_large (s : ByteArray) (h : 20000 < s.size) : value_Parse.f s = some (0, 0, ⟨#[]⟩, 2) := by
  unfold value_Parse.f
  rw [if_pos (by omega)]
theorem parse_other (s : ByteArray) (h0 : 402 < s.size) (h : s.size ≤ 20000) : value_Parse.f s = some (0, 0, ⟨#[]⟩, 10) := by
  unfold value_Parse.f value_Read_s.f
  rw [if_neg (by omega), if_pos h, read_long s h0]
  rfl
theorem parse_at (s : ByteArray) (h : s.size ≤ 20000) : value_Parse.f s = some (if (readC s).2.2.2 = true then ((readC s).1, (readC s).2.1, (readC s).2.2.1, 0) else (0, 0, ⟨#[]⟩, 10)) := by
  unfold value_Parse.f value_Read_s.f
  rw [if_neg (by omega), if_pos h]
  simp only [Option.bind_some]
  split <;> rfl
theorem long_loop : ∀ (d i k : Nat) (l : List Int), l.length = 20001 → i + d = 20001 → d < k → tacticianlaw01_ValueParses.l0 k l (i : Int) = some true := by
  intro d
  induction d with
  | zero =>
    intro i k l hl hi hk
    obtain ⟨k, rfl⟩ : ∃ m, k = m + 1 := ⟨k - 1, by omega⟩
    have e1 := parse_large (strOfNums l) (by rw [strOf_size]; omega)
    have e2 := parse_other (strOfNums (l.drop 1)) (by rw [strOf_size, List.length_drop]; omega) (by rw [strOf_size, List.length_drop]; omega)
    simp only [tacticianlaw01_ValueParses.l0, e1, e2, Option.bind_some]
    rw [if_neg (by omega), if_pos (by omega)]
    simp [tacticianlaw01_awake.f]
  | succ d ih =>
    intro i k l hl hi hk
    obtain ⟨k, rfl⟩ : ∃ m, k = m + 1 := ⟨k - 1, by omega⟩
    simp only [tacticianlaw01_ValueParses.l0]
    rw [if_pos (by omega), if_pos (by omega), wrap_small (n := (i : Int) + 1) (by omega) (by omega), show ((i : Int) + 1) = ((i + 1 : Nat) : Int) by omega]
    exact ih (i + 1) k _ (by rw [List.length_set]; exact hl) (by omega) (by omega)
theorem mn_size (s : ByteArray) : 0 ≤ mn (s.size : Int) 600 ∧ mn (s.size : Int) 600 ≤ s.size ∧ mn (s.size : Int) 600 ≤ 600 := by
  unfold mn
  split <;> omega
theorem pure_ValueParses : ∀ (a0 : ByteArray) (a1 : Bool), (a0.size ≤ 140737488351232) → ∃ k, Q.tacticianlaw01_ValueParses.f k (a0) (a1) = some true := by
  intro a0 a1 h
  refine ⟨30000, ?_⟩
  obtain ⟨m0, m1, m2⟩ := mn_size a0
  unfold tacticianlaw01_ValueParses.f
  rw [if_pos m0, if_pos m1]
  cases a1 with
  | true =>
    rw [if_pos rfl, if_pos (by omega)]
    exact long_loop 20001 0 30000 _ (List.length_replicate) (by omega) (by omega)
  | false =>
    rw [if_neg (by simp)]
    have hs : (a0.extract 0 (mn (a0.size : Int) 600).toNat).size ≤ 600 := by
      rw [ByteArray.size_extract]
      omega
    generalize a0.extract 0 (mn (a0.size : Int) 600).toNat = s at hs
    obtain ⟨a, b, c, ok, e1, e2⟩ := parse_readC s (by omega) 30000 (by omega)
    rw [parse_at s (by omega), e1]
    simp only [Option.bind_some]
    cases ok with
    | true =>
      rw [if_pos rfl] at e2
      rw [e2]
      simp [tacticianlaw01_awake.f]
    | false =>
      rw [if_neg (by simp)] at e2
      rw [e2]
      simp [tacticianlaw01_awake.f]
end Go.Proofs.YtinhpbmoiamepaaDoor
