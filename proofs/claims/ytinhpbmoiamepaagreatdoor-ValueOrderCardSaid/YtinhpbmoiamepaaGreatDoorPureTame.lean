/- A tamed value is a value, in plain words: no program in sight. -/
import Derived.Test.YtinhpbmoiamepaaGreatDoorQ11
import Derived.Test.YtinhpbmoiamepaaGreatDoorPlain
namespace Go.Proofs.YtinhpbmoiamepaaGreatDoor
open Go.RowKit Go.Proofs.YtinhpbmoiamepaaGreatDoor.Q Go.Proofs.YtinhpbmoiamepaaGreatDoorW.PrintWords Go.Proofs.YtinhpbmoiamepaaGreatDoorW.PrintLast Go.Proofs.YtinhpbmoiamepaaGreatDoorW.PrintMore
set_option linter.unusedSimpArgs false

theorem tame_loop (t : ByteArray) (ht : t.size ≤ 140737488351232) (p q : Int) : ∀ (d i k : Nat) (acc : ByteArray), i + d = min t.size 12 → d < k → acc.size = i → prL acc.data.toList = true →
    ∃ c, tacticianref01_Tame.l0 k acc (i : Int) p q t = some (3, 0, c) ∧ c.size ≤ 12 ∧ prL c.data.toList = true := by
  intro d
  induction d with
  | zero =>
    intro i k acc hi hk hs hp
    obtain ⟨k, rfl⟩ : ∃ m, k = m + 1 := ⟨k - 1, by omega⟩
    refine ⟨acc, ?_, by omega, hp⟩
    simp only [tacticianref01_Tame.l0]
    by_cases h : i < t.size
    · rw [if_pos (by omega), if_neg (by omega)]; rfl
    · rw [if_neg (by omega)]; rfl
  | succ d ih =>
    intro i k acc hi hk hs hp
    obtain ⟨k, rfl⟩ : ∃ m, k = m + 1 := ⟨k - 1, by omega⟩
    have hlt : i < t.size := by omega
    have hb := bt_get t i hlt
    generalize t.data.toList[i]'(by rw [Array.length_toList]; exact hlt) = c at hb
    have hc : c.toNat < 256 := c.toNat_lt
    simp only [tacticianref01_Tame.l0]
    rw [if_pos (by omega), if_pos (by omega), if_pos (by omega), hb]
    have hm : Int.tmod (c.toNat : Int) 95 = ((c.toNat % 95 : Nat) : Int) := rfl
    rw [hm]
    have hn : ((32 + ((c.toNat % 95 : Nat) : Int)) % 256) = ((32 + c.toNat % 95 : Nat) : Int) := by omega
    rw [hn]
    simp only [Option.bind_some]
    have hsz : (strOfNums [((32 + c.toNat % 95 : Nat) : Int)]).size = 1 := strOfNums_size _
    have hd : (strOfNums [((32 + c.toNat % 95 : Nat) : Int)]).data.toList = [UInt8.ofNat (32 + c.toNat % 95)] := rfl
    rw [if_pos (by rw [hsz]; omega), wrap_small (n := (i : Int) + 1) (by omega) (by omega), show ((i : Int) + 1) = ((i + 1 : Nat) : Int) by omega]
    refine ih (i + 1) k _ (by omega) (by omega) (by rw [ByteArray.size_append, hsz, hs]) ?_
    rw [append_data, hd]
    unfold prL at hp ⊢
    rw [List.all_append, hp]
    have e : (UInt8.ofNat (32 + c.toNat % 95)).toNat = 32 + c.toNat % 95 := by rw [UInt8.toNat_ofNat']; omega
    simp only [List.all_cons, List.all_nil, e, Bool.true_and, Bool.and_true, Bool.and_eq_true, decide_eq_true_eq]
    omega
theorem okV_of_text {c : ByteArray} (h : c.size ≤ 200) (hp : prL c.data.toList = true) : okV 3 0 c = true := by
  unfold okV isB
  simp [h, hp]
  decide
theorem tame_ok (a b : Int) (c : ByteArray) (hb : inI64 b = true) (hc : c.size ≤ 140737488351232) (k : Nat) (hk : 20 < k) : ∃ a' b' c', tacticianref01_Tame.f k a b c = some (a', b', c') ∧ okV a' b' c' = true := by
  unfold tacticianref01_Tame.f
  split
  · exact ⟨1, b, ⟨#[]⟩, rfl, by unfold okV; rw [hb]; rfl⟩
  · split
    · cases (Int.tmod b 2 != 0) with
      | true => exact ⟨2, 1, ⟨#[]⟩, rfl, by decide⟩
      | false => exact ⟨2, 0, ⟨#[]⟩, rfl, by decide⟩
    · split
      · obtain ⟨d, e, hs, hp⟩ := tame_loop c hc a b (min c.size 12) 0 k ⟨#[]⟩ (by omega) (by omega) rfl rfl
        exact ⟨3, 0, d, e, okV_of_text (by omega) hp⟩
      · exact ⟨0, 0, ⟨#[]⟩, rfl, by decide⟩
end Go.Proofs.YtinhpbmoiamepaaGreatDoor
