/- What the program's reading of a string answers, in plain words. -/
import Derived.Test.YtinhpbmoiamepaaDoorQ5
import Derived.Test.YtinhpbmoiamepaaDoorPureRef01
import Derived.Test.YtinhpbmoiamepaaDoorPureCut
namespace Go.Proofs.YtinhpbmoiamepaaDoor
open Go.RowKit Go.Proofs.YtinhpbmoiamepaaDoor.Q Go.Proofs.YtinhpbmoiamepaaDoorW.PrintWords Go.Proofs.YtinhpbmoiamepaaDoorW.PrintLast Go.Proofs.YtinhpbmoiamepaaDoorW.PrintMore

theorem writ_size {a b : Int} {c : ByteArray} (h : okV a b c = true) : (writ a b c).size ≤ 402 := by
  unfold writ
  rw [ofL_size]
  rcases okV_cases h with ⟨rfl, rfl, rfl⟩ | ⟨rfl, hi, rfl⟩ | ⟨rfl, rfl | rfl, rfl⟩ | ⟨rfl, rfl, hs, hp⟩
  · decide
  · show (Lib.itoa b).length ≤ 402
    have := itoa_len b hi
    omega
  · decide
  · decide
  · have h1 := dbl_le c.data.toList
    have h2 : c.data.toList.length = c.size := Array.length_toList
    show (39 :: (dbl c.data.toList ++ [39])).length ≤ 402
    simp only [List.length_cons, List.length_append, List.length_nil]
    omega
theorem strOf_size (l : List Int) : (strOfNums l).size = l.length := by
  unfold strOfNums
  show (l.map _).toArray.size = _
  simp
theorem read_long (s : ByteArray) (h : 402 < s.size) : readC s = (0, 0, ⟨#[]⟩, false) := by
  cases hr : readC s with
  | mk a r =>
    obtain ⟨b, c, o⟩ := r
    cases o with
    | true =>
      obtain ⟨z1, z2⟩ := readC_true s hr
      have := writ_size z1
      rw [z2] at this
      omega
    | false =>
      obtain ⟨rfl, rfl, rfl⟩ := readC_false s hr
      rfl
theorem parse_large (s : ByteArray) (h : 20000 < s.size) : value_Parse.f s = some (0, 0, ⟨#[]⟩, 2) := by
  unfold value_Parse.f
  rw [if_pos (by omega)]
theorem parse_other (s : ByteArray) (h0 : 402 < s.size) (h : s.size ≤ 20000) : value_Parse.f s = some (0, 0, ⟨#[]⟩, 10) := by
  unfold value_Parse.f value_Read_s.f
  rw [if_neg (by omega), if_pos h, read_long s h0]
  rfl
theorem parse_at (s : ByteArray) (h : s.size ≤ 20000) : value_Parse.f s = some (if (readC s).2.2.2 = true then ((readC s).1, (readC s).2.1, (readC s).2.2.1, 0) else (0, 0, ⟨#[]⟩, 10)) := by
  unfold value_Parse.f value_Read_s.f
  rw [if_neg (by omega), if_pos h]
  simp only [Option.bind_some]
  split <;> rfl
theorem parse_true {s : ByteArray} {a b : Int} {c : ByteArray} (h : s.size ≤ 20000) (hr : readC s = (a, b, c, true)) : value_Parse.f s = some (a, b, c, 0) := by
  rw [parse_at s h, hr]
  rfl
theorem parse_false {s : ByteArray} {a b : Int} {c : ByteArray} (h : s.size ≤ 20000) (hr : readC s = (a, b, c, false)) : value_Parse.f s = some (0, 0, ⟨#[]⟩, 10) := by
  rw [parse_at s h, hr]
  rfl
end Go.Proofs.YtinhpbmoiamepaaDoor
