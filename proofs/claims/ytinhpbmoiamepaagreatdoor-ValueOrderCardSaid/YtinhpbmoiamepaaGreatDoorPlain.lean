/- Plain words for the layer value: what a value is, its string, its order; no program in sight. -/
import Derived.Test.YtinhpbmoiamepaaGreatDoorQ0
import Derived.Lib.ItoaLen
import Derived.Lib.ParseIntBTie
import Derived.Lib.ReplaceLaws
namespace Go.Proofs.YtinhpbmoiamepaaGreatDoor
open Go.RowKit Go.Proofs.YtinhpbmoiamepaaGreatDoor.Q Go.Proofs.YtinhpbmoiamepaaGreatDoorW.PrintWords Go.Proofs.YtinhpbmoiamepaaGreatDoorW.PrintLast Go.Proofs.YtinhpbmoiamepaaGreatDoorW.PrintMore

abbrev V := S25

def prL (l : List UInt8) : Bool := l.all fun c => decide (32 ≤ c.toNat) && decide (c.toNat ≤ 126)
/-- whether data are a value -/
def isB (k i : Int) (s : ByteArray) : Bool :=
  if k = 0 then decide (i = 0) && s.data.toList.isEmpty
  else if k = 1 then s.data.toList.isEmpty
  else if k = 2 then s.data.toList.isEmpty && (decide (i = 0) || decide (i = 1))
  else if k = 3 then decide (i = 0) && decide (s.size ≤ 200) && prL s.data.toList
  else false
def isV (v : V) : Bool := isB v.f0 v.f1 v.f2
/-- each ' twice -/
def dbl : List UInt8 → List UInt8
  | [] => []
  | c :: r => if c = 39 then 39 :: 39 :: dbl r else c :: dbl r
/-- the string of a value -/
def writL (k i : Int) (s : ByteArray) : List UInt8 :=
  if k = 1 then Lib.itoa i
  else if k = 2 then (if i = 1 then [116, 114, 117, 101] else [102, 97, 108, 115, 101])
  else if k = 3 then 39 :: (dbl s.data.toList ++ [39])
  else [110, 117, 108, 108]
def writ (k i : Int) (s : ByteArray) : ByteArray := ofL (writL k i s)
def okV (k i : Int) (s : ByteArray) : Bool := isB k i s && inI64 i
theorem ba_empty {s : ByteArray} (h : s.data.toList.isEmpty = true) : s = ⟨#[]⟩ := by
  have : s.data.toList = [] := by simpa using h
  apply ByteArray.ext
  apply Array.ext'
  simpa using this
theorem isB_cases {k i : Int} {s : ByteArray} (h : isB k i s = true) :
    (k = 0 ∧ i = 0 ∧ s = ⟨#[]⟩) ∨ (k = 1 ∧ s = ⟨#[]⟩) ∨ (k = 2 ∧ (i = 0 ∨ i = 1) ∧ s = ⟨#[]⟩) ∨ (k = 3 ∧ i = 0 ∧ s.size ≤ 200 ∧ prL s.data.toList = true) := by
  unfold isB at h
  by_cases h0 : k = 0
  · rw [if_pos h0] at h
    simp only [Bool.and_eq_true, decide_eq_true_eq] at h
    exact .inl ⟨h0, h.1, ba_empty h.2⟩
  rw [if_neg h0] at h
  by_cases h1 : k = 1
  · rw [if_pos h1] at h
    exact .inr (.inl ⟨h1, ba_empty h⟩)
  rw [if_neg h1] at h
  by_cases h2 : k = 2
  · rw [if_pos h2] at h
    simp only [Bool.and_eq_true, Bool.or_eq_true, decide_eq_true_eq] at h
    exact .inr (.inr (.inl ⟨h2, h.2, ba_empty h.1⟩))
  rw [if_neg h2] at h
  by_cases h3 : k = 3
  · rw [if_pos h3] at h
    simp only [Bool.and_eq_true, decide_eq_true_eq] at h
    exact .inr (.inr (.inr ⟨h3, h.1.1, h.1.2, h.2⟩))
  rw [if_neg h3] at h
  cases h
theorem okV_cases {k i : Int} {s : ByteArray} (h : okV k i s = true) :
    (k = 0 ∧ i = 0 ∧ s = ⟨#[]⟩) ∨ (k = 1 ∧ inI64 i = true ∧ s = ⟨#[]⟩) ∨ (k = 2 ∧ (i = 0 ∨ i = 1) ∧ s = ⟨#[]⟩) ∨ (k = 3 ∧ i = 0 ∧ s.size ≤ 200 ∧ prL s.data.toList = true) := by
  unfold okV at h
  rw [Bool.and_eq_true] at h
  rcases isB_cases h.1 with z | z | z | z
  · exact .inl z
  · exact .inr (.inl ⟨z.1, h.2, z.2⟩)
  · exact .inr (.inr (.inl z))
  · exact .inr (.inr (.inr z))
theorem writ_int (i : Int) {s : ByteArray} : writ 1 i s = ofL (Lib.itoa i) := rfl
theorem ofL_size (l : List UInt8) : (ofL l).size = l.length := by unfold ofL; show l.toArray.size = _; simp
theorem ofL_data (l : List UInt8) : (ofL l).data.toList = l := by unfold ofL; simp
theorem ba_ext {s t : ByteArray} (h : s.data.toList = t.data.toList) : s = t := ByteArray.ext (Array.ext' h)
theorem ofL_toList (s : ByteArray) : ofL s.data.toList = s := ba_ext (ofL_data _)
theorem append_data (s t : ByteArray) : (s ++ t).data.toList = s.data.toList ++ t.data.toList := by rw [ByteArray.data_append]; simp
theorem writ_text (s : ByteArray) : writ 3 0 s = (⟨#[39]⟩ : ByteArray) ++ ofL (dbl s.data.toList) ++ (⟨#[39]⟩ : ByteArray) := by
  apply ba_ext
  rw [append_data, append_data, ofL_data]
  unfold writ
  rw [ofL_data]
  rfl
theorem dbl_le (l : List UInt8) : (dbl l).length ≤ 2 * l.length := by
  induction l with
  | nil => simp [dbl]
  | cons c r ih => unfold dbl; split <;> simp <;> omega
theorem dbl_size (s : ByteArray) (hs : s.size ≤ 200) : (ofL (dbl s.data.toList)).size ≤ 400 := by
  have h := dbl_le s.data.toList
  have e : s.data.toList.length = s.size := Array.length_toList
  rw [ofL_size]
  omega
theorem countB_le (s old : ByteArray) (h : 1 ≤ old.size) : Lib.countB s old ≤ s.size := by
  have := Lib.countB_mul_le old h s.size s (Nat.le_refl _)
  exact Nat.le_trans (Nat.le_mul_of_pos_right _ h) this
/-- all instances replaced -/
def repR (old new s : List UInt8) : List UInt8 := Lib.replaceK old new (Lib.count s old) s
theorem repR_nil (old new : List UInt8) (h : old ≠ []) : repR old new [] = [] := by
  have : Lib.index [] old = -1 := by cases old with | nil => exact absurd rfl h | cons => rfl
  unfold repR; rw [Lib.count_miss this]; rfl
theorem repR_hit (old new s : List UInt8) (ho : old ≠ []) (hs : s ≠ []) (h : old.isPrefixOf s = true) : repR old new s = new ++ repR old new (s.drop old.length) := by
  have hi : Lib.index s old = ((0 : Nat) : Int) := by cases s with | nil => exact absurd rfl hs | cons b l => unfold Lib.index; rw [if_pos h]; rfl
  have hc := Lib.count_hit ho hi
  unfold repR
  rw [hc, Nat.add_comm, Lib.replaceK_hit old new _ s 0 hi]
  simp
theorem repR_skip (old new r : List UInt8) (c : UInt8) (ho : old ≠ []) (h : old.isPrefixOf (c :: r) = false) : repR old new (c :: r) = c :: repR old new r := by
  have hx : Lib.index (c :: r) old = if Lib.index r old == -1 then -1 else Lib.index r old + 1 := by
    show (if old.isPrefixOf (c :: r) = true then (0 : Int) else if Lib.index r old == -1 then -1 else Lib.index r old + 1) = _
    rw [h]; rfl
  by_cases hm : Lib.index r old = -1
  · have h1 : Lib.index (c :: r) old = -1 := by rw [hx, hm]; rfl
    unfold repR; rw [Lib.count_miss h1, Lib.count_miss hm]; rfl
  · have hge := Lib.index_ge r old
    obtain ⟨i, hi⟩ : ∃ i : Nat, Lib.index r old = i := ⟨(Lib.index r old).toNat, by omega⟩
    have h1 : Lib.index (c :: r) old = ((i + 1 : Nat) : Int) := by
      rw [hx, if_neg (by intro e; exact hm (beq_iff_eq.1 e)), hi]; rfl
    have e1 := Lib.count_hit ho h1
    have e2 := Lib.count_hit ho hi
    unfold repR
    rw [e1, e2, Nat.add_comm 1, Nat.add_comm 1, Lib.replaceK_hit old new _ (c :: r) (i + 1) h1, Lib.replaceK_hit old new _ r i hi]
    simp [Nat.add_right_comm i 1]
theorem replaceAll_eq (s old new : List UInt8) (h : (old == new) = false) : Lib.replaceAll s old new = repR old new s := by
  unfold Lib.replaceAll Lib.replace Lib.replaceNum repR
  rw [h]; simp
theorem replaceAll_dbl (l : List UInt8) : Lib.replaceAll l [39] [39, 39] = dbl l := by
  rw [replaceAll_eq _ _ _ (by decide)]
  induction l with
  | nil => exact repR_nil _ _ (by simp)
  | cons c r ih =>
    unfold dbl
    by_cases h : c = 39
    · subst h
      rw [repR_hit _ _ _ (by simp) (by simp) (by simp [List.isPrefixOf]), if_pos rfl]
      simp [ih]
    · rw [repR_skip _ _ _ _ (by simp) (by simp [List.isPrefixOf, Ne.symm h]), if_neg h, ih]
theorem replaceAll_half (l : List UInt8) : Lib.replaceAll (dbl l) [39, 39] [39] = l := by
  rw [replaceAll_eq _ _ _ (by decide)]
  induction l with
  | nil => exact repR_nil _ _ (by simp)
  | cons c r ih =>
    unfold dbl
    by_cases h : c = 39
    · subst h
      rw [if_pos rfl, repR_hit _ _ _ (by simp) (by simp) (by simp [List.isPrefixOf])]
      simp [ih]
    · rw [if_neg h, repR_skip _ _ _ _ (by simp) (by simp [List.isPrefixOf, Ne.symm h]), ih]
/-- strings compared -/
def cmpB (a b : ByteArray) : Int := if Op.bytesLess a.data.toList b.data.toList = true then -1 else if (a.data.toList == b.data.toList) = true then 0 else 1
/-- numbers, lists of bytes, values compared -/
def cmpI (a b : Int) : Int := if a < b then -1 else if b < a then 1 else 0
def cmpL : List UInt8 → List UInt8 → Int
  | [], [] => 0
  | [], _ :: _ => -1
  | _ :: _, [] => 1
  | a :: x, b :: y => if a < b then -1 else if b < a then 1 else cmpL x y
def ordV (k i : Int) (s : ByteArray) (k' i' : Int) (s' : ByteArray) : Int :=
  if cmpI k k' ≠ 0 then cmpI k k' else if cmpI i i' ≠ 0 then cmpI i i' else cmpL s.data.toList s'.data.toList
theorem cmpI_eq {a b : Int} (h : a = b) : cmpI a b = 0 := by unfold cmpI; rw [if_neg (by omega), if_neg (by omega)]
theorem cmpI_lt {a b : Int} (h : a < b) : cmpI a b = -1 := by unfold cmpI; rw [if_pos h]
theorem cmpI_gt {a b : Int} (h : b < a) : cmpI a b = 1 := by unfold cmpI; rw [if_neg (by omega), if_pos h]
theorem ordV_k {k i k' i' : Int} {s s' : ByteArray} (h : k < k') : ordV k i s k' i' s' = -1 := by unfold ordV; rw [cmpI_lt h]; rfl
theorem ordV_k' {k i k' i' : Int} {s s' : ByteArray} (h : k' < k) : ordV k i s k' i' s' = 1 := by unfold ordV; rw [cmpI_gt h]; rfl
theorem ordV_i {k i k' i' : Int} {s s' : ByteArray} (e : k = k') (h : i < i') : ordV k i s k' i' s' = -1 := by unfold ordV; rw [cmpI_eq e, cmpI_lt h]; rfl
theorem ordV_i' {k i k' i' : Int} {s s' : ByteArray} (e : k = k') (h : i' < i) : ordV k i s k' i' s' = 1 := by unfold ordV; rw [cmpI_eq e, cmpI_gt h]; rfl
theorem ordV_s {k i k' i' : Int} {s s' : ByteArray} (e : k = k') (h : i = i') : ordV k i s k' i' s' = cmpL s.data.toList s'.data.toList := by unfold ordV; rw [cmpI_eq e, cmpI_eq h]; rfl
theorem cmpB_eq (a b : ByteArray) : cmpB a b = cmpL a.data.toList b.data.toList := by
  unfold cmpB
  generalize a.data.toList = x
  generalize b.data.toList = y
  induction x generalizing y with
  | nil => cases y <;> simp [Op.bytesLess, cmpL]
  | cons c r ih =>
    cases y with
    | nil => simp [Op.bytesLess, cmpL]
    | cons d q =>
      have h := ih q
      simp only [Op.bytesLess, cmpL]
      by_cases h1 : c < d
      · simp [h1]
      · by_cases h2 : d < c
        · have h3 : ¬ c = d := by intro e; subst e; exact h1 h2
          simp [h1, h2, h3]
        · have h3 : c = d := by
            rw [UInt8.lt_iff_toNat_lt] at h1 h2
            exact UInt8.toNat_inj.1 (by omega)
          subst h3
          simp only [h1, decide_false, Bool.false_or, beq_self_eq_true, Bool.true_and, if_false]
          rw [← h]
          simp
def eqV (v : V) (d0 d1 : Int) (d2 : ByteArray) : Bool := v.f0 == d0 && (v.f1 == d1 && (v.f2.toList == d2.toList))
/-- truth of many: what decides, if it is there; else null, if that is; else what stays -/
def joinV (s0 s1 : Int) (s2 : ByteArray) (d0 d1 : Int) (d2 : ByteArray) : List V → Int × Int × ByteArray
  | [] => (s0, s1, s2)
  | v :: r => if eqV v d0 d1 d2 = true then (d0, d1, d2) else if v.f0 = 0 then joinV 0 0 ⟨#[]⟩ d0 d1 d2 r else joinV s0 s1 s2 d0 d1 d2 r
/-- what is wrong with a list of values -/
def listE (l : List V) : Int := if 20000 < l.length then 2 else if l.all isV = true then 0 else 10
def truthV (v : V) : Bool := decide (v.f0 = 2) || decide (v.f0 = 0)
def truthsE (l : List V) : Int := if listE l = 0 then (if l.all truthV = true then 0 else 1) else listE l
/-- the first place at which p holds, or -1 -/
def idxF {α : Type} (p : α → Bool) (l : List α) : Int := match l.findIdx? p with | some i => (i : Int) | none => -1
theorem idxF_nonneg {α : Type} (p : α → Bool) (l : List α) : decide (idxF p l ≥ 0) = l.any p := by
  unfold idxF
  cases h : l.findIdx? p with
  | none =>
    rw [List.findIdx?_eq_none_iff] at h
    have : l.any p = false := by rw [List.any_eq_false]; intro x hx; simp [h x hx]
    rw [this]; simp
  | some i =>
    have h2 : l.any p = true := by
      have := List.findIdx?_isSome (xs := l) (p := p)
      rw [h] at this
      simpa using this.symm
    rw [h2]
    simp
theorem idxF_hit {α : Type} (p : α → Bool) (l : List α) (k : Nat) (h : k < l.length) (hp : p l[k] = true) (hn : ∀ j (hj : j < k), p (l[j]'(by omega)) = false) : idxF p l = k := by
  unfold idxF
  have : l.findIdx? p = some k := by
    rw [List.findIdx?_eq_some_iff_getElem]
    exact ⟨h, hp, fun j hj => by simp [hn j hj]⟩
  rw [this]
theorem idxF_miss {α : Type} (p : α → Bool) (l : List α) (hn : ∀ j (hj : j < l.length), p l[j] = false) : idxF p l = -1 := by
  unfold idxF
  have : l.findIdx? p = none := by
    rw [List.findIdx?_eq_none_iff]
    intro x hx
    obtain ⟨j, hj, rfl⟩ := List.getElem_of_mem hx
    exact hn j hj
  rw [this]
theorem bt_get (s : ByteArray) (i : Nat) (h : i < s.size) : bt s (i : Int) = ((s.data.toList[i]'(by rw [Array.length_toList]; exact h)).toNat : Int) := by
  unfold bt
  simp only [Int.toNat_natCast]
  rw [dif_pos h]
  rfl
theorem prL_cons (c : UInt8) (l : List UInt8) : prL (c :: l) = (decide (32 ≤ c.toNat) && decide (c.toNat ≤ 126) && prL l) := rfl
theorem toList_nil_iff (s : ByteArray) : (s.toList == ([] : List UInt8)) = s.data.toList.isEmpty := by
  rw [ByteArray.toList_eq]; cases s.data.toList <;> rfl
theorem wrap_small {n : Int} (h0 : 0 ≤ n) (h1 : n ≤ 9223372036854775807) : wrap64 n = n := by unfold wrap64; omega
theorem rd_at (l : List V) (k : Nat) (h : k < l.length) : rd_T25 l (k : Int) = l[k] := by
  unfold rd_T25
  simp [h]
end Go.Proofs.YtinhpbmoiamepaaGreatDoor
