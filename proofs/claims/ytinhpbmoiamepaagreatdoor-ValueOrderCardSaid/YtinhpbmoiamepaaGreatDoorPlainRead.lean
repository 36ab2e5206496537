/- Plain words for the layer value: strings are read back (no program in sight). -/
import Derived.Test.YtinhpbmoiamepaaGreatDoorPlain
namespace Go.Proofs.YtinhpbmoiamepaaGreatDoor
open Go.RowKit Go.Proofs.YtinhpbmoiamepaaGreatDoor.Q Go.Proofs.YtinhpbmoiamepaaGreatDoorW.PrintWords Go.Proofs.YtinhpbmoiamepaaGreatDoorW.PrintLast Go.Proofs.YtinhpbmoiamepaaGreatDoorW.PrintMore

theorem decDigits_ne (u : Nat) : Lib.decDigits u ≠ [] := by
  rw [Lib.decDigits]; split <;> simp
theorem decDigits_digit (u : Nat) : ∀ c ∈ Lib.decDigits u, 48 ≤ c.toNat ∧ c.toNat ≤ 57 := by
  induction u using Nat.strongRecOn with
  | _ u ih =>
    intro c hc
    rw [Lib.decDigits] at hc
    have hd : ∀ z, z < 10 → (UInt8.ofNat (48 + z)).toNat = 48 + z := by intro z hz; rw [UInt8.toNat_ofNat']; omega
    split at hc
    · rename_i h
      rw [List.mem_singleton] at hc
      rw [hc, hd u h]; omega
    · rename_i h
      rw [List.mem_append, List.mem_singleton] at hc
      rcases hc with hc | hc
      · exact ih (u / 10) (by omega) c hc
      · rw [hc, hd _ (by omega)]; omega
theorem parseM_snoc (M : Nat) (d : UInt8) (hd : 48 ≤ d.toNat ∧ d.toNat ≤ 57) : ∀ (l : List UInt8) (acc v : Nat), Lib.parseUintM M acc l = .ok v → v ≤ 1844674407370955161 → v * 10 + (d.toNat - 48) ≤ M →
    Lib.parseUintM M acc (l ++ [d]) = .ok (v * 10 + (d.toNat - 48)) := by
  intro l
  induction l with
  | nil =>
    intro acc v h h1 h2
    have e : acc = v := by simpa [Lib.parseUintM] using h
    subst e
    simp only [List.nil_append, Lib.parseUintM]
    rw [if_pos hd, if_neg (by omega), if_neg (by omega)]
  | cons c r ih =>
    intro acc v h h1 h2
    simp only [List.cons_append, Lib.parseUintM] at h ⊢
    split at h
    · rename_i hc
      rw [if_pos hc]
      split at h
      · cases h
      · rename_i h3
        rw [if_neg h3]
        split at h
        · cases h
        · rename_i h4
          rw [if_neg h4]
          exact ih _ _ h h1 h2
    · cases h
theorem parseM_digits (u : Nat) (hu : u ≤ 18446744073709551615) : Lib.parseUintM 18446744073709551615 0 (Lib.decDigits u) = .ok u := by
  induction u using Nat.strongRecOn with
  | _ u ih =>
    have hd : ∀ z, z < 10 → (UInt8.ofNat (48 + z)).toNat = 48 + z := by intro z hz; rw [UInt8.toNat_ofNat']; omega
    rw [Lib.decDigits]
    split
    · rename_i h
      simp only [Lib.parseUintM]
      rw [hd u h, if_pos (by omega), if_neg (by omega), if_neg (by omega)]
      congr 1
      omega
    · rename_i h
      have := parseM_snoc 18446744073709551615 (UInt8.ofNat (48 + u % 10)) (by rw [hd _ (by omega)]; omega) (Lib.decDigits (u / 10)) 0 (u / 10) (ih (u / 10) (by omega) (by omega)) (by omega) (by rw [hd _ (by omega)]; omega)
      rw [this, hd _ (by omega)]
      congr 1
      omega
theorem itoa_cases (n : Int) : (n < 0 ∧ Lib.itoa n = 45 :: Lib.decDigits n.natAbs) ∨ (0 ≤ n ∧ Lib.itoa n = Lib.decDigits n.natAbs) := by
  unfold Lib.itoa
  by_cases h : n < 0
  · rw [if_pos h]; exact .inl ⟨h, rfl⟩
  · rw [if_neg h]; exact .inr ⟨by omega, by congr 1; omega⟩
theorem parse_itoa (n : Int) (h : inI64 n = true) : Lib.parseIntB 64 (Lib.itoa n) = .ok n := by
  obtain ⟨h0, h1⟩ := inI64_bd h
  have hM : (2 ^ 64 - 1 : Nat) = 18446744073709551615 := rfl
  have hB : (2 ^ (64 - 1) : Nat) = 9223372036854775808 := rfl
  rcases itoa_cases n with ⟨hn, e⟩ | ⟨hn, e⟩
  · rw [e]
    have hp : Lib.parseUintB 64 (Lib.decDigits n.natAbs) = .ok n.natAbs := by
      unfold Lib.parseUintB
      rw [if_neg (decDigits_ne _), hM]
      exact parseM_digits _ (by omega)
    have h45 : (45 : UInt8).toNat = 45 := rfl
    simp only [Lib.parseIntB, h45]
    rw [if_pos (Or.inr trivial), hp]
    simp only [hB]
    rw [if_neg (by simp), if_neg (by omega), if_pos trivial]
    congr 1
    omega
  · rw [e]
    have hp : Lib.parseUintB 64 (Lib.decDigits n.natAbs) = .ok n.natAbs := by
      unfold Lib.parseUintB
      rw [if_neg (decDigits_ne _), hM]
      exact parseM_digits _ (by omega)
    have hne := decDigits_ne n.natAbs
    have hdig := decDigits_digit n.natAbs
    generalize Lib.decDigits n.natAbs = l at hp hne hdig
    cases l with
    | nil => exact absurd rfl hne
    | cons c r =>
      have hc := hdig c List.mem_cons_self
      simp only [Lib.parseIntB]
      rw [if_neg (by omega), hp]
      simp only [hB]
      rw [if_neg (by omega), if_neg (by omega), if_neg (by omega)]
      congr 1
      omega
theorem itoa_head (n : Int) : ∃ c r, Lib.itoa n = c :: r ∧ (c.toNat = 45 ∨ 48 ≤ c.toNat ∧ c.toNat ≤ 57) := by
  rcases itoa_cases n with ⟨_, e⟩ | ⟨_, e⟩
  · exact ⟨45, _, e, .inl rfl⟩
  · have hne := decDigits_ne n.natAbs
    have hdig := decDigits_digit n.natAbs
    rw [e]
    cases h : Lib.decDigits n.natAbs with
    | nil => exact absurd h hne
    | cons c r => exact ⟨c, r, rfl, .inr (hdig c (by rw [h]; exact List.mem_cons_self))⟩

/-- the value whose string s could be -/
def quoted (s : ByteArray) : Bool := decide (1 < s.size) && ((bt s 0 == 39) && (bt s ((s.size : Int) - 1) == 39))
def cand (s : ByteArray) : Option (Int × Int × ByteArray) :=
  if s.data.toList = [110, 117, 108, 108] then some (0, 0, ⟨#[]⟩)
  else if s.data.toList = [116, 114, 117, 101] then some (2, 1, ⟨#[]⟩)
  else if s.data.toList = [102, 97, 108, 115, 101] then some (2, 0, ⟨#[]⟩)
  else if quoted s = true then some (3, 0, ofL (Lib.replaceAll (s.extract 1 (s.size - 1)).data.toList [39, 39] [39]))
  else match Lib.parseIntB 64 s.data.toList with
    | .ok v => some (1, v, ⟨#[]⟩)
    | _ => none
def readC (s : ByteArray) : Int × Int × ByteArray × Bool :=
  match cand s with
  | some (a, b, c) => if isB a b c = true ∧ writL a b c = s.data.toList then (a, b, c, true) else (0, 0, ⟨#[]⟩, false)
  | none => (0, 0, ⟨#[]⟩, false)
theorem cand_in (s : ByteArray) {a b : Int} {c : ByteArray} (h : cand s = some (a, b, c)) : inI64 b = true := by
  unfold cand at h
  split at h
  · obtain ⟨_, rfl, _⟩ := by simpa using h
    rfl
  split at h
  · obtain ⟨_, rfl, _⟩ := by simpa using h
    rfl
  split at h
  · obtain ⟨_, rfl, _⟩ := by simpa using h
    rfl
  split at h
  · obtain ⟨_, rfl, _⟩ := by simpa using h
    rfl
  split at h
  · rename_i v hv
    have hb := Lib.parseIntB_bounds hv
    have hB : ((2 ^ (64 - 1) : Nat) : Int) = 9223372036854775808 := rfl
    rw [hB] at hb
    obtain ⟨_, rfl, _⟩ := by simpa using h
    exact inI64_mk hb.1 (by omega)
  · cases h
/-- what is read has this very string -/
theorem readC_true (s : ByteArray) {a b : Int} {c : ByteArray} (h : readC s = (a, b, c, true)) : okV a b c = true ∧ writ a b c = s := by
  unfold readC at h
  cases hc : cand s with
  | none => rw [hc] at h; simp at h
  | some z =>
    obtain ⟨a', b', c'⟩ := z
    rw [hc] at h
    simp only at h
    split at h
    · rename_i hz
      simp only [Prod.mk.injEq, and_true] at h
      obtain ⟨rfl, rfl, rfl⟩ := h
      refine ⟨?_, ?_⟩
      · unfold okV; rw [hz.1, cand_in s hc]; rfl
      · apply ba_ext; unfold writ; rw [ofL_data]; exact hz.2
    · simp at h
theorem readC_false (s : ByteArray) {a b : Int} {c : ByteArray} (h : readC s = (a, b, c, false)) : a = 0 ∧ b = 0 ∧ c = ⟨#[]⟩ := by
  unfold readC at h
  split at h
  · split at h
    · simp at h
    · simp only [Prod.mk.injEq, and_true] at h
      exact ⟨h.1.symm, h.2.1.symm, h.2.2.symm⟩
  · simp only [Prod.mk.injEq, and_true] at h
    exact ⟨h.1.symm, h.2.1.symm, h.2.2.symm⟩
theorem cand_text (t : ByteArray) : cand (writ 3 0 t) = some (3, 0, t) := by
  have hw := writ_text t
  have hd : (writ 3 0 t).data.toList = 39 :: (dbl t.data.toList ++ [39]) := by unfold writ; rw [ofL_data]; rfl
  have hl : (writ 3 0 t).size = (dbl t.data.toList).length + 2 := by
    have : (writ 3 0 t).size = (writ 3 0 t).data.toList.length := Array.length_toList.symm
    rw [this, hd]; simp
  generalize writ 3 0 t = s at hd hl
  have hlen : s.data.toList.length = s.size := Array.length_toList
  unfold cand
  rw [hd, if_neg (by simp), if_neg (by simp), if_neg (by simp)]
  have hq : quoted s = true := by
    have b0 : 0 < s.size := by rw [hl]; exact Nat.succ_pos _
    have b1 : s.size - 1 < s.size := by rw [hl]; exact Nat.lt_succ_self _
    have e0 := bt_get s 0 b0
    have e1 := bt_get s (s.size - 1) b1
    have k0 : s.data.toList[0]'(by rw [hlen]; exact b0) = 39 := by simp [hd]
    have k1 : s.data.toList[s.size - 1]'(by rw [hlen]; exact b1) = 39 := by simp [hd, hl]
    rw [k0] at e0
    rw [k1] at e1
    have b2 : 1 ≤ s.size := b0
    have e2 : ((s.size : Int) - 1) = ((s.size - 1 : Nat) : Int) := by omega
    have b3 : 1 < s.size := by rw [hl]; exact Nat.succ_lt_succ (Nat.succ_pos _)
    unfold quoted
    rw [e2, e1, show bt s 0 = ((39 : UInt8).toNat : Int) from e0]
    simp [b3]
  rw [if_pos hq]
  have hx : (s.extract 1 (s.size - 1)).data.toList = dbl t.data.toList := by
    rw [ByteArray.data_extract, Array.toList_extract, hd, hl]
    simp
  rw [hx, replaceAll_half, ofL_toList]
theorem cand_writ {a b : Int} {c : ByteArray} (h : okV a b c = true) : cand (writ a b c) = some (a, b, c) := by
  rcases okV_cases h with ⟨rfl, rfl, rfl⟩ | ⟨rfl, hi, rfl⟩ | ⟨rfl, rfl | rfl, rfl⟩ | ⟨rfl, rfl, hs, hp⟩
  · rfl
  · have hd : (writ 1 b ⟨#[]⟩).data.toList = Lib.itoa b := by unfold writ; rw [ofL_data]; rfl
    obtain ⟨d, r, e, hdig⟩ := itoa_head b
    have hdig' : ¬ d.toNat = 110 ∧ ¬ d.toNat = 116 ∧ ¬ d.toNat = 102 ∧ ¬ d.toNat = 39 := by omega
    have hne : ∀ z : UInt8, ¬ d.toNat = z.toNat → ¬ d = z := fun z hz e => hz (by rw [e])
    unfold cand
    rw [hd, if_neg (by rw [e]; intro x; injection x with x1 _; exact hdig'.1 (by rw [x1]; rfl)), if_neg (by rw [e]; intro x; injection x with x1 _; exact hdig'.2.1 (by rw [x1]; rfl)), if_neg (by rw [e]; intro x; injection x with x1 _; exact hdig'.2.2.1 (by rw [x1]; rfl))]
    have hq : ¬ quoted (writ 1 b ⟨#[]⟩) = true := by
      unfold quoted
      have hsz : 0 < (writ 1 b ⟨#[]⟩).size := by
        have : (writ 1 b ⟨#[]⟩).size = (writ 1 b ⟨#[]⟩).data.toList.length := Array.length_toList.symm
        rw [this, hd, e]; simp
      have e0 := bt_get (writ 1 b ⟨#[]⟩) 0 hsz
      have k0 : (writ 1 b ⟨#[]⟩).data.toList[0]'(by rw [Array.length_toList]; exact hsz) = d := by simp [hd, e]
      rw [k0] at e0
      rw [show ((0 : Int)) = ((0 : Nat) : Int) from rfl, e0]
      have : ¬ (d.toNat : Int) = 39 := by omega
      simp [this]
    rw [if_neg hq, parse_itoa b hi]
  · rfl
  · rfl
  · exact cand_text c
theorem readC_writ {a b : Int} {c : ByteArray} (h : okV a b c = true) : readC (writ a b c) = (a, b, c, true) := by
  unfold readC
  rw [cand_writ h]
  have h2 : isB a b c = true := by unfold okV at h; rw [Bool.and_eq_true] at h; exact h.1
  simp only
  rw [if_pos ⟨h2, by unfold writ; rw [ofL_data]⟩]
/-- the string tells the value -/
theorem writ_inj {a b a' b' : Int} {c c' : ByteArray} (h : okV a b c = true) (h' : okV a' b' c' = true) (e : writ a b c = writ a' b' c') : a = a' ∧ b = b' ∧ c = c' := by
  have h1 := readC_writ h
  rw [e, readC_writ h'] at h1
  simp only [Prod.mk.injEq, and_true] at h1
  exact ⟨h1.1.symm, h1.2.1.symm, h1.2.2.symm⟩
/-- what no value has as its string is not read -/
theorem readC_of {s : ByteArray} {a b : Int} {c : ByteArray} (h : okV a b c = true) (e : writ a b c = s) : readC s = (a, b, c, true) := by rw [← e]; exact readC_writ h
end Go.Proofs.YtinhpbmoiamepaaGreatDoor
