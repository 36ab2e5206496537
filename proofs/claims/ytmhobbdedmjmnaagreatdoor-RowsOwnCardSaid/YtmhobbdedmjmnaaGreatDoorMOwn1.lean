/- Lemmas for the claim: contracts of functions and facts about what they compute, part 2 (texts put together, and cut down to what is used, by a program of ours). -/
import Derived.Shelf.SlSortCmp.NoneTotal
import Derived.Lib.SlicesCompact
import Derived.Shelf.Strings.Builder1
import Derived.Shelf.Strings.Builder2
import Derived.Shelf.Strings.OnBuilder
import Derived.Shelf.Small.Bits
import Derived.Shelf.Strings.BuilderF
import Derived.Shelf.Strings.BuilderK
import Derived.Shelf.Strings.Builder2Cap
import Derived.Shelf.Strconv.Itoa0
import Derived.Shelf.Strconv.Itoa1
import Derived.Shelf.LaysM
import Derived.Shelf.Strconv.Itoa2
import Derived.Shelf.Strconv.Itoa3
import Derived.Shelf.Strconv.Itoa4
import Derived.Shelf.Strconv.ParseIntEmpty
import Derived.Shelf.Strconv.Clone
import Derived.Shelf.Strconv.SyntaxError
import Derived.Shelf.LaysC
import Derived.Shelf.Strconv.ToError
import Derived.Shelf.Strconv.Lower
import Derived.Shelf.Strconv.ParseUint10
import Derived.Shelf.Strconv.ParseUint10Empty
import Derived.Shelf.Strconv.ParseUint10Any
import Derived.Shelf.Strconv.ParseInt10
import Derived.Shelf.Strconv.RangeError
import Derived.Shelf.Strconv.ToErrorRange
import Derived.Shelf.Strconv.ParseUintEmpty
import Derived.Shelf.Strconv.ParseUint10b64
import Derived.Shelf.Strconv.ParseUint10b32
import Derived.Shelf.Strconv.ParseUint10b16
import Derived.Shelf.Strconv.ParseUint10b8
import Derived.Shelf.Strconv.ParseUint10At
import Derived.Shelf.Strconv.ParseInt10At64
import Derived.Shelf.Strconv.ParseInt10At32
import Derived.Shelf.Strconv.ParseInt10At16
import Derived.Shelf.Strconv.ParseInt10At8
import Derived.Shelf.Strconv.ParseInt10All
import Derived.Shelf.Strconv.ParseIntPublic10
import Derived.Shelf.Strconv.ErrVarParseInt
import Derived.Shelf.Strings.Search1
import Derived.Shelf.Strings.Search2
import Derived.Shelf.Strings.Search3
import Derived.Shelf.Strings.Count
import Derived.Shelf.Strings.Shaped
import Derived.Shelf.Strings.Split
import Derived.Shelf.Strings.Replace
import Derived.Shelf.Strings.SplitShaped
import Derived.Shelf.Unicode.DecodeSlow
import Derived.Shelf.Strings.BuilderCap
import Derived.Shelf.SlGeneric
import Derived.Ground.SlsfProg
import Derived.Test.YtmhobbdedmjmnaaGreatDoorProg
import Derived.WalkKit
import Derived.WalkSmall
import Derived.FnData
import Derived.Lib.AppendIntMem
import Derived.Lib.AtoiErrMem
import Derived.WalkLawsBesides
import Derived.Below
import Derived.Deep.Draws
import Derived.Deep.AppendLies
import Derived.Maps.AppendAt
import Derived.OwnWalk
import Derived.Laws.BytesArg
import Derived.Laws.MakeOwn
import Derived.Laws.OwnMore
import Derived.Deep.OwnRows
import Derived.Tactics
import Derived.Lib.ConvBytes
import Derived.Laws.Slices
import Derived.KernelRfl
import Derived.RowKit3
import Derived.Deep.LoopGhost
import Derived.Deep.QuietTactic
import Derived.BigQuiet
import Derived.WideLaws
import Derived.Deep.DeepCutAuto
import Derived.Deep.CutBlock
import Derived.Deep.RegionHeld3
import Derived.Laws.Rows
import Derived.Lib.AppendStr
import Derived.ArgAppend
import Derived.Laws.IdiomCopy
import Derived.OrdersHeld
import Derived.Laws.BitsLemmas
import Derived.RowKit
import Derived.Lib.ItoaLen
import Derived.Lib.ParseIntBTie
import Derived.Lib.ReplaceLaws
import Derived.Maps.OwnOps
import Derived.Maps.Views
import Derived.StringKeys
import Derived.Test.YtmhobbdedmjmnaaGreatDoorMOwn0
section
/- Comparisons that are total, and lists in their order: sorted in one way, each element once; no program in sight. -/
namespace Go.Proofs.YtmhobbdedmjmnaaGreatDoor
open Go.RowKit Go.Sort
/-- a comparison that is total: turned round, it is the other way; 0 for the same alone; it leads on -/
structure TC {α : Type} (c : α → α → Int) : Prop where
  turn : ∀ x y, c y x = - c x y
  same : ∀ x y, c x y = 0 → x = y
  on : ∀ x y z, c x y ≤ 0 → c y z ≤ 0 → c x z ≤ 0
theorem TC.refl {α : Type} {c : α → α → Int} (h : TC c) (x : α) : c x x = 0 := by have := h.turn x x; omega
theorem TC.lt {α : Type} {c : α → α → Int} (h : TC c) {x y z : α} (h1 : c x y < 0) (h2 : c y z ≤ 0) : c x z < 0 := by
  have h3 := h.on x y z (by omega) h2
  rcases Int.lt_or_eq_of_le h3 with h4 | h4
  · exact h4
  · obtain rfl := h.same x z h4
    have := h.turn x y
    omega
theorem TC.swo {α : Type} {c : α → α → Int} (h : TC c) : SWO (Go.Proofs.ltOf c) where
  irrefl x := by unfold Go.Proofs.ltOf; rw [h.refl]; rfl
  trans x y z h1 h2 := by
    unfold Go.Proofs.ltOf at *
    simp only [decide_eq_true_eq] at *
    exact h.lt h1 (by omega)
  ntrans x y z h1 h2 := by
    unfold Go.Proofs.ltOf at *
    simp only [decide_eq_false_iff_not] at *
    have a := h.turn x y
    have b := h.turn y z
    have d := h.turn x z
    have := h.on z y x (by omega) (by omega)
    omega
/-- one comparison after another -/
theorem TC.lex {α β γ : Type} {c : β → β → Int} {d : γ → γ → Int} (hc : TC c) (hd : TC d) (f : α → β) (g : α → γ) (hfg : ∀ x y, f x = f y → g x = g y → x = y) : TC fun x y => if c (f x) (f y) ≠ 0 then c (f x) (f y) else d (g x) (g y) where
  turn x y := by
    have a := hc.turn (f x) (f y)
    have b := hd.turn (g x) (g y)
    by_cases h : c (f x) (f y) = 0
    · simp only [h, ne_eq, not_true_eq_false, if_false, show c (f y) (f x) = 0 by omega]; exact b
    · simp only [h, ne_eq, not_false_eq_true, if_true, show ¬ c (f y) (f x) = 0 by omega]; exact a
  same x y h := by
    by_cases e : c (f x) (f y) = 0
    · simp only [e, ne_eq, not_true_eq_false, if_false] at h
      exact hfg x y (hc.same _ _ e) (hd.same _ _ h)
    · simp only [e, ne_eq, not_false_eq_true, if_true] at h
  on x y z h1 h2 := by
    by_cases e1 : c (f x) (f y) = 0
    · have q1 := hc.same _ _ e1
      simp only [e1, ne_eq, not_true_eq_false, if_false] at h1
      rw [q1]
      by_cases e2 : c (f y) (f z) = 0
      · simp only [e2, ne_eq, not_true_eq_false, if_false] at h2 ⊢
        exact hd.on _ _ _ h1 h2
      · simp only [e2, ne_eq, not_false_eq_true, if_true] at h2 ⊢
        exact h2
    · simp only [e1, ne_eq, not_false_eq_true, if_true] at h1
      have h3 : c (f y) (f z) ≤ 0 := by
        by_cases e2 : c (f y) (f z) = 0
        · omega
        · simp only [e2, ne_eq, not_false_eq_true, if_true] at h2; exact h2
      have h4 := hc.lt (show c (f x) (f y) < 0 by omega) h3
      simp only [show ¬ c (f x) (f z) = 0 by omega, ne_eq, not_false_eq_true, if_true]
      omega
/-- what is ahead or the same, by a comparison -/
def leOf {α : Type} (c : α → α → Int) (x y : α) : Bool := decide (c x y ≤ 0)
theorem TC.le_trans {α : Type} {c : α → α → Int} (h : TC c) (x y z : α) (h1 : leOf c x y = true) (h2 : leOf c y z = true) : leOf c x z = true := by
  unfold leOf at *
  rw [decide_eq_true_eq] at *
  exact h.on x y z h1 h2
theorem TC.le_total {α : Type} {c : α → α → Int} (h : TC c) (x y : α) : (leOf c x y || leOf c y x) = true := by
  unfold leOf
  have := h.turn x y
  by_cases e : c x y ≤ 0
  · simp [e]
  · simp [e]; omega
theorem TC.le_anti {α : Type} {c : α → α → Int} (h : TC c) (x y : α) (h1 : leOf c x y = true) (h2 : leOf c y x = true) : x = y := by
  unfold leOf at *
  rw [decide_eq_true_eq] at *
  have := h.turn x y
  exact h.same x y (by omega)
/-- a list, rising -/
def sortBy {α : Type} (c : α → α → Int) (l : List α) : List α := l.mergeSort (leOf c)
theorem sortBy_length {α : Type} (c : α → α → Int) (l : List α) : (sortBy c l).length = l.length := List.length_mergeSort _
theorem sortBy_mem {α : Type} {c : α → α → Int} {l : List α} {v : α} : v ∈ sortBy c l ↔ v ∈ l := List.mem_mergeSort
theorem sortBy_perm {α : Type} (c : α → α → Int) (l : List α) : (sortBy c l).Perm l := List.mergeSort_perm l _
theorem TC.sorted {α : Type} {c : α → α → Int} (h : TC c) (l : List α) : (sortBy c l).Pairwise fun a b => leOf c a b = true := List.pairwise_mergeSort h.le_trans h.le_total l
theorem TC.unique {α : Type} {c : α → α → Int} (h : TC c) {l r : List α} (hp : r.Perm l) (hs : r.Pairwise fun a b => leOf c a b = true) : r = sortBy c l :=
  List.Perm.eq_of_pairwise (fun a b _ _ h1 h2 => h.le_anti a b h1 h2) hs (h.sorted l) (hp.trans (sortBy_perm c l).symm)
/-- a comparison of what is told of the elements is an order that a sort may use -/
theorem TC.swo_of {α β : Type} {c : β → β → Int} (h : TC c) (f : α → β) : SWO (Go.Proofs.ltOf fun x y : α => c (f x) (f y)) where
  irrefl x := h.swo.irrefl (f x)
  trans x y z h1 h2 := h.swo.trans (f x) (f y) (f z) h1 h2
  ntrans x y z h1 h2 := h.swo.ntrans (f x) (f y) (f z) h1 h2
/-- what a sort has laid, told of the elements -/
theorem TC.image {α β : Type} [Inhabited α] {c : β → β → Int} (h : TC c) (f : α → β) {d d' : Array α} (hp : PermIn 0 d.size d d') (hs : SortedIn (Go.Proofs.ltOf fun x y : α => c (f x) (f y)) 0 d.size d') :
    d'.toList.map f = sortBy c (d.toList.map f) := by
  have hsz := hp.1
  have hperm : d'.toList.Perm d.toList := by
    have h3 := hp.2.2
    rw [show d'.extract 0 d.size = d' by rw [← hsz]; simp, show d.extract 0 d.size = d by simp] at h3
    exact h3
  refine h.unique (hperm.map f) ?_
  rw [List.pairwise_map, List.pairwise_iff_getElem]
  intro i j hi hj hij
  have h4 := hs i j (Nat.zero_le _) hij (by rw [Array.length_toList] at hj; omega)
  have e1 : d'[i]! = d'.toList[i] := by
    rw [Array.length_toList] at hi
    simp [hi]
  have e2 : d'[j]! = d'.toList[j] := by
    rw [Array.length_toList] at hj
    simp [hj]
  rw [e1, e2] at h4
  unfold Go.Proofs.ltOf at h4
  simp only [decide_eq_false_iff_not] at h4
  have := h.turn (f d'.toList[i]) (f d'.toList[j])
  unfold leOf
  rw [decide_eq_true_eq]
  omega
/-- lists compared, element by element; the shorter ahead -/
def cmpLst {α : Type} (c : α → α → Int) : List α → List α → Int
  | [], [] => 0
  | [], _ :: _ => -1
  | _ :: _, [] => 1
  | a :: x, b :: y => if c a b ≠ 0 then c a b else cmpLst c x y
theorem cmpLst_turn {α : Type} {c : α → α → Int} (h : TC c) : ∀ x y : List α, cmpLst c y x = - cmpLst c x y
  | [], [] => rfl
  | [], _ :: _ => rfl
  | _ :: _, [] => rfl
  | a :: x, b :: y => by
    simp only [cmpLst]
    have ht := h.turn a b
    by_cases e : c a b = 0
    · have e2 : c b a = 0 := by omega
      rw [if_neg (by simp [e2]), if_neg (by simp [e])]
      exact cmpLst_turn h x y
    · have e2 : c b a ≠ 0 := by omega
      rw [if_pos e2, if_pos e]
      exact ht
theorem cmpLst_same {α : Type} {c : α → α → Int} (h : TC c) : ∀ x y : List α, cmpLst c x y = 0 → x = y
  | [], [], _ => rfl
  | [], _ :: _, e => by simp [cmpLst] at e
  | _ :: _, [], e => by simp [cmpLst] at e
  | a :: x, b :: y, e => by
    simp only [cmpLst] at e
    by_cases e1 : c a b = 0
    · rw [if_neg (by simp [e1])] at e
      rw [h.same a b e1, cmpLst_same h x y e]
    · rw [if_pos e1] at e
      exact absurd e e1
theorem cmpLst_on {α : Type} {c : α → α → Int} (h : TC c) : ∀ x y z : List α, cmpLst c x y ≤ 0 → cmpLst c y z ≤ 0 → cmpLst c x z ≤ 0
  | [], _, [], _, _ => by simp [cmpLst]
  | [], _, _ :: _, _, _ => by simp [cmpLst]
  | _ :: _, [], _, e, _ => by simp [cmpLst] at e
  | _ :: _, _ :: _, [], _, e => by simp [cmpLst] at e
  | a :: x, b :: y, d :: z, e1, e2 => by
    simp only [cmpLst] at e1 e2 ⊢
    have ab : c a b ≤ 0 := by
      by_cases q : c a b = 0
      · omega
      · rw [if_pos q] at e1; exact e1
    have bd : c b d ≤ 0 := by
      by_cases q : c b d = 0
      · omega
      · rw [if_pos q] at e2; exact e2
    have ad := h.on a b d ab bd
    by_cases q : c a d = 0
    · rw [if_neg (by simp [q])]
      have hab : c a b = 0 := by
        by_cases w : c a b = 0
        · exact w
        · have := h.lt (show c a b < 0 by omega) bd
          omega
      have hbd : c b d = 0 := by
        have := h.same a b hab
        subst this
        exact q
      rw [if_neg (by simp [hab])] at e1
      rw [if_neg (by simp [hbd])] at e2
      exact cmpLst_on h x y z e1 e2
    · rw [if_pos q]; exact ad
theorem TC.list {α : Type} {c : α → α → Int} (h : TC c) : TC (cmpLst c) := ⟨cmpLst_turn h, cmpLst_same h, cmpLst_on h⟩
end Go.Proofs.YtmhobbdedmjmnaaGreatDoor
end
section
/- Lists in their order as bags: each element once, and so often; no program in sight. -/
namespace Go.Proofs.YtmhobbdedmjmnaaGreatDoor
open Go.RowKit Go.Sort
section
variable {α : Type}
/-- each element so often -/
def rep (n : α → Nat) (l : List α) : List α := l.flatMap fun a => List.replicate (n a) a
theorem rep_sorted {c : α → α → Int} (h : TC c) (n : α → Nat) : ∀ {l : List α}, l.Pairwise (fun a b => c a b < 0) → (rep n l).Pairwise fun a b => leOf c a b = true
  | [], _ => List.Pairwise.nil
  | a :: l, hl => by
    have hl' := List.pairwise_cons.1 hl
    unfold rep
    rw [List.flatMap_cons, List.pairwise_append]
    refine ⟨?_, rep_sorted h n hl'.2, ?_⟩
    · rw [List.pairwise_replicate]
      right
      unfold leOf
      rw [h.refl]
      rfl
    · intro x hx y hy
      rw [List.eq_of_mem_replicate hx]
      obtain ⟨z, hz, hy⟩ := List.mem_flatMap.1 hy
      rw [List.eq_of_mem_replicate hy]
      unfold leOf
      rw [decide_eq_true_eq]
      have := hl'.1 z hz
      omega
theorem TC.nodup {c : α → α → Int} (h : TC c) {l : List α} (hl : l.Pairwise (fun a b => c a b < 0)) : l.Nodup :=
  hl.imp fun {a b} hlt e => by rw [e, h.refl] at hlt; omega
variable [DecidableEq α]
theorem rep_count (n : α → Nat) : ∀ {l : List α}, l.Nodup → ∀ x, (rep n l).count x = if x ∈ l then n x else 0
  | [], _, x => by simp [rep]
  | a :: l, hl, x => by
    have hl' := List.nodup_cons.1 hl
    unfold rep
    rw [List.flatMap_cons, List.count_append]
    have ih := rep_count n hl'.2 x
    unfold rep at ih
    rw [ih, List.count_replicate]
    by_cases e : x = a
    · subst e
      rw [if_neg hl'.1]
      simp
    · have e2 : ¬ a = x := fun h => e h.symm
      by_cases m : x ∈ l
      · simp [e, e2, m]
      · simp [e, e2, m]
/-- in order, a list is told by how often each element is there -/
theorem TC.eq_of_count {c : α → α → Int} (h : TC c) {l r : List α} (hl : l.Pairwise fun a b => leOf c a b = true) (hr : r.Pairwise fun a b => leOf c a b = true) (hc : ∀ x, l.count x = r.count x) : l = r :=
  List.Perm.eq_of_pairwise (fun a b _ _ h1 h2 => h.le_anti a b h1 h2) hl hr (List.perm_iff_count.2 hc)
/-- so many of each are left, one less of one -/
def less1 (left : α → Nat) (r : α) : α → Nat := fun x => if x = r then left x - 1 else left x
/-- the ones of which some are left, each time one less -/
def takeIn : (α → Nat) → List α → List α
  | _, [] => []
  | left, r :: l => if 0 < left r then r :: takeIn (less1 left r) l else takeIn left l
theorem takeIn_count : ∀ (l : List α) (left : α → Nat) (x : α), (takeIn left l).count x = min (l.count x) (left x)
  | [], left, x => by simp [takeIn]
  | r :: l, left, x => by
    rw [takeIn]
    by_cases h : 0 < left r
    · rw [if_pos h]
      by_cases e : r = x
      · subst e
        rw [List.count_cons_self, List.count_cons_self, takeIn_count l]
        unfold less1
        rw [if_pos rfl]
        omega
      · rw [List.count_cons_of_ne e, List.count_cons_of_ne e, takeIn_count l]
        unfold less1
        rw [if_neg (fun q => e q.symm)]
    · rw [if_neg h, takeIn_count l]
      by_cases e : r = x
      · subst e
        rw [List.count_cons_self]
        omega
      · rw [List.count_cons_of_ne e]
/-- the ones of which none are left; with all, each of the others takes one away -/
def takeOut (all : Bool) : (α → Nat) → List α → List α
  | _, [] => []
  | left, r :: l => if left r = 0 then r :: takeOut all left l else if all = true then takeOut all (less1 left r) l else takeOut all left l
theorem takeOut_all : ∀ (l : List α) (left : α → Nat) (x : α), (takeOut true left l).count x = l.count x - left x
  | [], left, x => by simp [takeOut]
  | r :: l, left, x => by
    rw [takeOut]
    by_cases h : left r = 0
    · rw [if_pos h]
      by_cases e : r = x
      · subst e
        rw [List.count_cons_self, List.count_cons_self, takeOut_all l]
        omega
      · rw [List.count_cons_of_ne e, List.count_cons_of_ne e, takeOut_all l]
    · rw [if_neg h, if_pos rfl, takeOut_all l]
      unfold less1
      by_cases e : r = x
      · subst e
        rw [if_pos rfl, List.count_cons_self]
        omega
      · rw [if_neg (fun q => e q.symm), List.count_cons_of_ne e]
theorem takeOut_one : ∀ (l : List α) (left : α → Nat) (x : α), (takeOut false left l).count x = if left x = 0 then l.count x else 0
  | [], left, x => by simp [takeOut]
  | r :: l, left, x => by
    rw [takeOut]
    by_cases h : left r = 0
    · rw [if_pos h]
      by_cases e : r = x
      · subst e
        rw [List.count_cons_self, List.count_cons_self, takeOut_one l, if_pos h, if_pos h]
      · rw [List.count_cons_of_ne e, List.count_cons_of_ne e, takeOut_one l]
    · rw [if_neg h, if_neg (by simp), takeOut_one l]
      by_cases e : r = x
      · subst e
        rw [if_neg h, if_neg h]
      · rw [List.count_cons_of_ne e]
/-- how often an element is in a list -/
def cnt (l : List α) (x : α) : Nat := l.count x
theorem cnt_perm {l r : List α} (h : l.Perm r) (x : α) : cnt l x = cnt r x := h.count_eq x
theorem cnt_in (l : List α) (left : α → Nat) (x : α) : cnt (takeIn left l) x = min (cnt l x) (left x) := takeIn_count l left x
theorem cnt_out_all (l : List α) (left : α → Nat) (x : α) : cnt (takeOut true left l) x = cnt l x - left x := takeOut_all l left x
theorem cnt_out_one (l : List α) (left : α → Nat) (x : α) : cnt (takeOut false left l) x = if left x = 0 then cnt l x else 0 := takeOut_one l left x
theorem cnt_rep (n : α → Nat) {l : List α} (h : l.Nodup) (x : α) : cnt (rep n l) x = if x ∈ l then n x else 0 := rep_count n h x
theorem cnt_none {l : List α} {x : α} (h : x ∉ l) : cnt l x = 0 := List.count_eq_zero.2 h
theorem cnt_pos {l : List α} {x : α} (h : x ∈ l) : 0 < cnt l x := List.count_pos_iff.2 h
theorem cnt_nodup : ∀ {l : List α}, l.Nodup → ∀ x, cnt l x = if x ∈ l then 1 else 0
  | [], _, x => by simp [cnt]
  | a :: l, hl, x => by
    have hl' := List.nodup_cons.1 hl
    have ih := cnt_nodup hl'.2 x
    unfold cnt at *
    by_cases e : a = x
    · subst e
      rw [List.count_cons_self, ih, if_neg hl'.1, if_pos List.mem_cons_self]
    · rw [List.count_cons_of_ne e, ih]
      have e2 : ¬ x = a := fun h => e h.symm
      by_cases m : x ∈ l
      · rw [if_pos m, if_pos (List.mem_cons_of_mem _ m)]
      · rw [if_neg m, if_neg (by simp [e2, m])]
theorem TC.eq_of_cnt {c : α → α → Int} (h : TC c) {l r : List α} (hl : l.Pairwise fun a b => leOf c a b = true) (hr : r.Pairwise fun a b => leOf c a b = true) (hc : ∀ x, cnt l x = cnt r x) : l = r := h.eq_of_count hl hr hc
theorem cnt_filter (p : α → Bool) : ∀ (l : List α) (x : α), cnt (l.filter p) x = if p x = true then cnt l x else 0
  | [], x => by simp [cnt]
  | a :: l, x => by
    have ih := cnt_filter p l x
    unfold cnt at *
    by_cases ha : p a = true
    · rw [List.filter_cons_of_pos ha]
      by_cases e : a = x
      · subst e
        rw [List.count_cons_self, List.count_cons_self, ih, if_pos ha, if_pos ha]
      · rw [List.count_cons_of_ne e, List.count_cons_of_ne e, ih]
    · rw [List.filter_cons_of_neg ha, ih]
      by_cases e : a = x
      · subst e
        rw [if_neg ha, if_neg ha]
      · rw [List.count_cons_of_ne e]
theorem cnt_append (l r : List α) (x : α) : cnt (l ++ r) x = cnt l x + cnt r x := List.count_append
variable [Inhabited α]
/-- of a list the ones that are not what stands ahead of them -/
def onceOf (l : List α) : List α := Lib.compactUpTo l.toArray l.length
theorem onceOf_spec {c : α → α → Int} (h : TC c) (s : List α) (hs : s.Pairwise fun a b => leOf c a b = true) :
    (onceOf s).Pairwise (fun a b => c a b < 0) ∧ ∀ x, x ∈ onceOf s ↔ x ∈ s := by
  have get : ∀ j (hj : j < s.length), s.toArray[j]! = s[j] := fun j hj => by simp [hj]
  have le : ∀ i j, i < j → j < s.length → c s.toArray[i]! s.toArray[j]! ≤ 0 := fun i j hij hj => by
    rw [get i (by omega), get j hj]
    have := (List.pairwise_iff_getElem.1 hs) i j (by omega) hj hij
    unfold leOf at this
    rwa [decide_eq_true_eq] at this
  have main : ∀ m, m ≤ s.length → (Lib.compactUpTo s.toArray m).Pairwise (fun a b => c a b < 0) ∧ (∀ x, x ∈ Lib.compactUpTo s.toArray m ↔ ∃ j, j < m ∧ s.toArray[j]! = x) := by
    intro m
    induction m with
    | zero => intro _; exact ⟨by simp [Lib.compactUpTo], fun x => by simp [Lib.compactUpTo]⟩
    | succ m ih =>
      intro hm
      obtain ⟨h1, h2⟩ := ih (by omega)
      rw [Lib.compactUpTo_succ]
      by_cases hk : Lib.keeps s.toArray m = true
      · rw [if_pos hk]
        refine ⟨?_, fun x => ?_⟩
        · rw [List.pairwise_append]
          refine ⟨h1, List.pairwise_singleton _ _, fun a ha b hb => ?_⟩
          rw [List.mem_singleton.1 hb]
          obtain ⟨j, hj, rfl⟩ := (h2 a).1 ha
          have hm0 : m ≠ 0 := by omega
          have hne : s.toArray[m]! ≠ s.toArray[m - 1]! := by
            unfold Lib.keeps at hk
            rw [decide_eq_true_eq] at hk
            rcases hk with e | e
            · exact absurd e hm0
            · exact e
          have l1 := le (m - 1) m (by omega) (by omega)
          have l2 : c s.toArray[m - 1]! s.toArray[m]! ≠ 0 := fun e => hne (h.same _ _ e).symm
          by_cases e : j = m - 1
          · rw [e]; omega
          · have l3 := le j (m - 1) (by omega) (by omega)
            by_cases e3 : c s.toArray[j]! s.toArray[m - 1]! < 0
            · exact h.lt e3 l1
            · rw [h.same _ _ (show c s.toArray[j]! s.toArray[m - 1]! = 0 by omega)]
              omega
        · rw [List.mem_append, h2, List.mem_singleton]
          constructor
          · rintro (⟨j, hj, e⟩ | e)
            · exact ⟨j, by omega, e⟩
            · exact ⟨m, by omega, e.symm⟩
          · rintro ⟨j, hj, e⟩
            by_cases hjm : j = m
            · subst hjm; exact .inr e.symm
            · exact .inl ⟨j, by omega, e⟩
      · rw [if_neg hk, List.append_nil]
        refine ⟨h1, fun x => ?_⟩
        rw [h2]
        constructor
        · rintro ⟨j, hj, e⟩; exact ⟨j, by omega, e⟩
        · rintro ⟨j, hj, e⟩
          by_cases hjm : j = m
          · subst hjm
            unfold Lib.keeps at hk
            rw [decide_eq_true_eq] at hk
            have hm0 : j ≠ 0 := fun e0 => hk (.inl e0)
            have heq : s.toArray[j]! = s.toArray[j - 1]! := by
              by_cases q : s.toArray[j]! = s.toArray[j - 1]!
              · exact q
              · exact absurd (.inr q) hk
            exact ⟨j - 1, by omega, by rw [← heq]; exact e⟩
          · exact ⟨j, by omega, e⟩
  obtain ⟨h1, h2⟩ := main s.length (Nat.le_refl _)
  refine ⟨h1, fun x => ?_⟩
  unfold onceOf
  rw [h2]
  constructor
  · rintro ⟨j, hj, rfl⟩
    rw [get j hj]; exact List.getElem_mem hj
  · intro hx
    obtain ⟨j, hj, rfl⟩ := List.getElem_of_mem hx
    exact ⟨j, hj, get j hj⟩
end
end Go.Proofs.YtmhobbdedmjmnaaGreatDoor
end
section
/-
  DERIVED: THE SHELF's CONTRACTS AT THIS DUMP, IN PLAIN WORDS (tools/lay-plain.mjs out of 'YtmhobbdedmjmnaaGreatDoorShelf.lean', which tools/lay-shelf.mjs wrote): THE SAME DECLARATIONS UNDER THE SAME NAMES: 'import', 'namespace', 'open', 'def', 'theorem' AND NOTHING ELSE: no command of the shelf's: FOR A HAND-IN. Each laying: the table of numbers ('.._ren') and one theorem, a field a fact of the dump's own or the kernel's comparison; each contract: ONE APPLICATION.
-/
namespace Go.Proofs
open Go.Shelf
def Tryz.lays170_ren : Go.Shelf.Ren := ⟨fun | 170 => 80 | n => n, fun | 70 => 99 | 3 => 3 | 0 => 0 | 72 => 102 | 37 => 100 | 5 => 5 | n => n, fun | n => n⟩
theorem Tryz.lays170 : Go.Proofs.Lays.n170 Tryz.prog Tryz.lays170_ren := {
  mixed := by kernel_rfl
  f170 := Tryz.func80.trans (congrArg some (by kernel_rfl))
  t0 := Tryz.underlying0
  a0 := Tryz.isAgg0
  z0 := Tryz.sizeOf0
  v0 := Tryz.zeroValue0
  t3 := Tryz.underlying3
  a3 := Tryz.isAgg3
  z3 := Tryz.sizeOf3
  v3 := Tryz.zeroValue3
  t37 := Tryz.underlying100
  a37 := Tryz.isAgg100
  z37 := Tryz.sizeOf100
  v37 := Tryz.zeroValue100
  t70 := Tryz.underlying99
  a70 := Tryz.isAgg99
  z70 := Tryz.sizeOf99
  v70 := Tryz.zeroValue99
  t72 := Tryz.underlying102
  a72 := Tryz.isAgg102
  z72 := Tryz.sizeOf102
  v72 := Tryz.zeroValue102 }
open Go.RowKit in
/-- (*strings.Builder).Len: "Len returns the number of accumulated bytes; b.Len() == len(b.String()).": the world is as it was. (LAID: no walk: one application.) -/
theorem Tryz.Builder_Len (B b : Nat) (bs : List Value) (w : World) (h : Lib.IsBuilder 102 5 B b bs w) :
    Calls Tryz.prog 80 #[.pointer (some ⟨b, 0, none⟩)] w fun e w' => e = .returned (.int .i64 bs.length) ∧ w' = w := Any.Builder_Len Tryz.lays170 B b bs w h
def Tryz.lays169_ren : Go.Shelf.Ren := ⟨fun | 169 => 81 | n => n, fun | 70 => 99 | 9 => 9 | 0 => 0 | 72 => 102 | 37 => 100 | 127 => 136 | 3 => 3 | 5 => 5 | n => n, fun | n => n⟩
theorem Tryz.lays169 : Go.Proofs.Lays.n169 Tryz.prog Tryz.lays169_ren := {
  mixed := by kernel_rfl
  f169 := Tryz.func81.trans (congrArg some (by kernel_rfl))
  t0 := Tryz.underlying0
  a0 := Tryz.isAgg0
  z0 := Tryz.sizeOf0
  v0 := Tryz.zeroValue0
  t3 := Tryz.underlying3
  a3 := Tryz.isAgg3
  z3 := Tryz.sizeOf3
  v3 := Tryz.zeroValue3
  t9 := Tryz.underlying9
  a9 := Tryz.isAgg9
  z9 := Tryz.sizeOf9
  v9 := Tryz.zeroValue9
  t37 := Tryz.underlying100
  a37 := Tryz.isAgg100
  z37 := Tryz.sizeOf100
  v37 := Tryz.zeroValue100
  t70 := Tryz.underlying99
  a70 := Tryz.isAgg99
  z70 := Tryz.sizeOf99
  v70 := Tryz.zeroValue99
  t72 := Tryz.underlying102
  a72 := Tryz.isAgg102
  z72 := Tryz.sizeOf102
  v72 := Tryz.zeroValue102
  t127 := Tryz.underlying136
  a127 := Tryz.isAgg136
  z127 := Tryz.sizeOf136
  v127 := Tryz.zeroValue136 }
theorem Tryz.Builder_Extra_169 : Builder.Extra Tryz.prog Tryz.lays169_ren := {
  sizeBuilder := by kernel_rfl
  liesBuilder := by kernel_rfl
  t5 := Tryz.underlying5
  a5 := Tryz.isAgg5
  z5 := Tryz.sizeOf5
  v5 := Tryz.zeroValue5
  infoByte := by kernel_rfl
  cellsByte := by kernel_rfl
  sizeByte := by kernel_rfl
  neB5 := by decide }
open Go.RowKit in
/-- (*strings.Builder).String: "String returns the accumulated string.": WHATEVER THE BUILDER HOLDS. (LAID: no walk: one application.) -/
theorem Tryz.Builder_String_any (B b : Nat) (l : List UInt8) (w : World) (h : Lib.IsBuilder 102 5 B b (Lib.byteCells l) w) (hBw : B ≤ w.heap.size) :
    Calls Tryz.prog 81 #[.pointer (some ⟨b, 0, none⟩)] w fun e w' => e = .returned (.string ⟨l.toArray⟩) ∧ Below B w w' := Any.Builder_String_any Tryz.lays169 Tryz.Builder_Extra_169 B b l w h hBw
def Tryz.lays156_ren : Go.Shelf.Ren := ⟨fun | 156 => 118 | 165 => 150 | 166 => 77 | 169 => 81 | 240 => 116 | 241 => 164 | 276 => 147 | 277 => 177 | n => n, fun | 31 => 133 | 9 => 9 | 3 => 3 | 4 => 4 | 0 => 0 | 20 => 20 | 72 => 102 | 76 => 105 | 70 => 99 | 37 => 100 | 75 => 104 | 127 => 136 | 164 => 162 | 5 => 5 | 80 => 110 | n => n, fun | n => n⟩
theorem Tryz.lays156 : Go.Proofs.Lays.n156 Tryz.prog Tryz.lays156_ren := {
  mixed := by kernel_rfl
  f156 := Tryz.func118.trans (congrArg some (by kernel_rfl))
  f165 := Tryz.func150.trans (congrArg some (by kernel_rfl))
  f166 := Tryz.func77.trans (congrArg some (by kernel_rfl))
  f169 := Tryz.func81.trans (congrArg some (by kernel_rfl))
  f240 := Tryz.func116.trans (congrArg some (by kernel_rfl))
  f241 := Tryz.func164.trans (congrArg some (by kernel_rfl))
  f276 := Tryz.func147.trans (congrArg some (by kernel_rfl))
  f277 := Tryz.func177.trans (congrArg some (by kernel_rfl))
  t0 := Tryz.underlying0
  a0 := Tryz.isAgg0
  z0 := Tryz.sizeOf0
  v0 := Tryz.zeroValue0
  t3 := Tryz.underlying3
  a3 := Tryz.isAgg3
  z3 := Tryz.sizeOf3
  v3 := Tryz.zeroValue3
  t4 := Tryz.underlying4
  a4 := Tryz.isAgg4
  z4 := Tryz.sizeOf4
  v4 := Tryz.zeroValue4
  t9 := Tryz.underlying9
  a9 := Tryz.isAgg9
  z9 := Tryz.sizeOf9
  v9 := Tryz.zeroValue9
  t20 := Tryz.underlying20
  a20 := Tryz.isAgg20
  z20 := Tryz.sizeOf20
  v20 := Tryz.zeroValue20
  t31 := Tryz.underlying133
  a31 := Tryz.isAgg133
  z31 := Tryz.sizeOf133
  v31 := Tryz.zeroValue133
  t37 := Tryz.underlying100
  a37 := Tryz.isAgg100
  z37 := Tryz.sizeOf100
  v37 := Tryz.zeroValue100
  t70 := Tryz.underlying99
  a70 := Tryz.isAgg99
  z70 := Tryz.sizeOf99
  v70 := Tryz.zeroValue99
  t72 := Tryz.underlying102
  a72 := Tryz.isAgg102
  z72 := Tryz.sizeOf102
  v72 := Tryz.zeroValue102
  t75 := Tryz.underlying104
  a75 := Tryz.isAgg104
  z75 := Tryz.sizeOf104
  v75 := Tryz.zeroValue104
  t76 := Tryz.underlying105
  a76 := Tryz.isAgg105
  z76 := Tryz.sizeOf105
  v76 := Tryz.zeroValue105
  t127 := Tryz.underlying136
  a127 := Tryz.isAgg136
  z127 := Tryz.sizeOf136
  v127 := Tryz.zeroValue136
  t164 := Tryz.underlying162
  a164 := Tryz.isAgg162
  z164 := Tryz.sizeOf162
  v164 := Tryz.zeroValue162 }
theorem Tryz.Builder_Extra_156 : Builder.Extra Tryz.prog Tryz.lays156_ren := {
  sizeBuilder := by kernel_rfl
  liesBuilder := by kernel_rfl
  t5 := Tryz.underlying5
  a5 := Tryz.isAgg5
  z5 := Tryz.sizeOf5
  v5 := Tryz.zeroValue5
  infoByte := by kernel_rfl
  cellsByte := by kernel_rfl
  sizeByte := by kernel_rfl
  neB5 := by decide }
open Go.RowKit in
/-- strings.Join: "Join concatenates the elements of its first argument to create a single string. The separator string sep is placed between elements in the resulting string.": HOWEVER MANY ELEMENTS. Below the heap's end the world is as it was. (LAID: no walk: one application.) -/
theorem Tryz.strings_Join (bk o c : Nat) (xs : List ByteArray) (sep : ByteArray) (w : World) (hcells : ∀ (j : Nat) x, xs[j]? = some x → w.cell? ⟨bk, o + j, none⟩ = some (.string x)) (hbk : bk < w.heap.size) (hN : xs.length ≤ 140737488355328) (hcap : xs.length ≤ c) (hlen : (Lib.join (xs.map (·.data.toList)) sep.data.toList).length ≤ 140737488355328) :
    Calls Tryz.prog 118 #[.slice (some ⟨bk, o, none⟩) xs.length c, .string sep] w fun e w' => e = .returned (.string ⟨(Lib.join (xs.map (·.data.toList)) sep.data.toList).toArray⟩) ∧ Below w.heap.size w w' := Any.strings_Join Tryz.lays156 Tryz.Builder_Extra_156 bk o c xs sep w hcells hbk hN hcap hlen
def Tryz.laysM173_ren : Go.Shelf.Ren := ⟨fun | 173 => 148 | 246 => 162 | 283 => 170 | 284 => 171 | 285 => 172 | 286 => 173 | 129 => 135 | 317 => 180 | 318 => 181 | 319 => 182 | 320 => 183 | 337 => 193 | 338 => 194 | n => n, fun | 2 => 2 | 3 => 3 | 9 => 9 | 4 => 4 | 171 => 188 | 0 => 0 | 53 => 153 | 37 => 100 | 5 => 5 | 173 => 190 | 212 => 198 | 51 => 151 | 20 => 20 | 213 => 199 | 46 => 123 | 232 => 217 | 233 => 218 | n => n, fun | 17 => 0 | 18 => 6 | 19 => 7 | n => n⟩
theorem Tryz.laysM173 : Go.Proofs.LaysM.n173 Tryz.prog Tryz.laysM173_ren := {
  mixed := by kernel_rfl
  f129 := Tryz.func135.trans (congrArg some (by kernel_rfl))
  f173 := Tryz.func148.trans (congrArg some (by kernel_rfl))
  f246 := Tryz.func162.trans (congrArg some (by kernel_rfl))
  f283 := Tryz.func170.trans (congrArg some (by kernel_rfl))
  f284 := Tryz.func171.trans (congrArg some (by kernel_rfl))
  f285 := Tryz.func172.trans (congrArg some (by kernel_rfl))
  f286 := Tryz.func173.trans (congrArg some (by kernel_rfl))
  f317 := Tryz.func180.trans (congrArg some (by kernel_rfl))
  f318 := Tryz.func181.trans (congrArg some (by kernel_rfl))
  f319 := Tryz.func182.trans (congrArg some (by kernel_rfl))
  f320 := Tryz.func183.trans (congrArg some (by kernel_rfl))
  f337 := Tryz.func193.trans (congrArg some (by kernel_rfl))
  f338 := Tryz.func194.trans (congrArg some (by kernel_rfl))
  t0 := Tryz.underlying0
  a0 := Tryz.isAgg0
  z0 := Tryz.sizeOf0
  v0 := Tryz.zeroValue0
  t2 := Tryz.underlying2
  a2 := Tryz.isAgg2
  z2 := Tryz.sizeOf2
  v2 := Tryz.zeroValue2
  t3 := Tryz.underlying3
  a3 := Tryz.isAgg3
  z3 := Tryz.sizeOf3
  v3 := Tryz.zeroValue3
  t4 := Tryz.underlying4
  a4 := Tryz.isAgg4
  z4 := Tryz.sizeOf4
  v4 := Tryz.zeroValue4
  t5 := Tryz.underlying5
  a5 := Tryz.isAgg5
  z5 := Tryz.sizeOf5
  v5 := Tryz.zeroValue5
  t9 := Tryz.underlying9
  a9 := Tryz.isAgg9
  z9 := Tryz.sizeOf9
  v9 := Tryz.zeroValue9
  t20 := Tryz.underlying20
  a20 := Tryz.isAgg20
  z20 := Tryz.sizeOf20
  v20 := Tryz.zeroValue20
  t37 := Tryz.underlying100
  a37 := Tryz.isAgg100
  z37 := Tryz.sizeOf100
  v37 := Tryz.zeroValue100
  t46 := Tryz.underlying123
  a46 := Tryz.isAgg123
  z46 := Tryz.sizeOf123
  v46 := Tryz.zeroValue123
  t51 := Tryz.underlying151
  a51 := Tryz.isAgg151
  z51 := Tryz.sizeOf151
  v51 := Tryz.zeroValue151
  t53 := Tryz.underlying153
  a53 := Tryz.isAgg153
  z53 := Tryz.sizeOf153
  v53 := Tryz.zeroValue153
  t171 := Tryz.underlying188
  a171 := Tryz.isAgg188
  z171 := Tryz.sizeOf188
  v171 := Tryz.zeroValue188
  t173 := Tryz.underlying190
  a173 := Tryz.isAgg190
  z173 := Tryz.sizeOf190
  v173 := Tryz.zeroValue190
  t212 := Tryz.underlying198
  a212 := Tryz.isAgg198
  z212 := Tryz.sizeOf198
  v212 := Tryz.zeroValue198
  t213 := Tryz.underlying199
  a213 := Tryz.isAgg199
  z213 := Tryz.sizeOf199
  t232 := Tryz.underlying217
  a232 := Tryz.isAgg217
  z232 := Tryz.sizeOf217
  v232 := Tryz.zeroValue217
  t233 := Tryz.underlying218
  a233 := Tryz.isAgg218
  z233 := Tryz.sizeOf218
  v233 := Tryz.zeroValue218
  g17 := by kernel_rfl
  g18 := by kernel_rfl
  g19 := by kernel_rfl
  i0 := by kernel_rfl
  i2 := by kernel_rfl
  i3 := by kernel_rfl
  i4 := by kernel_rfl
  i5 := by kernel_rfl
  i9 := by kernel_rfl
  i20 := by kernel_rfl
  i37 := by kernel_rfl
  i46 := by kernel_rfl
  i51 := by kernel_rfl
  i53 := by kernel_rfl
  i171 := by kernel_rfl
  i173 := by kernel_rfl
  i212 := by kernel_rfl
  i232 := by kernel_rfl
  i233 := by kernel_rfl
  m17 := by kernel_rfl
  m18 := by kernel_rfl
  m19 := by kernel_rfl }
open Go.RowKit Go.Sort Go.Lib in
/-- strconv.FormatInt: "FormatInt returns the string representation of i in the given base": AT BASE 10: i's decimal numeral, for every int64. (LAID: no walk: one application.) -/
theorem Tryz.strconv_FormatInt_10 (n : Int) (h0 : -9223372036854775808 ≤ n) (h1 : n ≤ 9223372036854775807) (w : World) (htab : Lib.TabIs Tryz.prog w "internal/strconv.uint64pow10" .u64 Lib.pow10Tab) :
    Calls Tryz.prog 148 #[.int .i64 n, .int .i64 10] w fun e w' => e = .returned (.string ⟨(Lib.itoa n).toArray⟩) ∧ ∃ k os, w' = grow (w.drewN k) os := Any.strconv_FormatInt_10 Tryz.laysM173 n h0 h1 w htab
def Tryz.lays155_ren : Go.Shelf.Ren := ⟨fun | 155 => 149 | 154 => 163 | 138 => 174 | 165 => 150 | 143 => 175 | 166 => 77 | 197 => 176 | 169 => 81 | 195 => 184 | 218 => 185 | 240 => 116 | 241 => 164 | 219 => 186 | 260 => 187 | 276 => 147 | 277 => 177 | 217 => 195 | 225 => 196 | 224 => 197 | 267 => 198 | 266 => 204 | 314 => 205 | n => n, fun | 9 => 9 | 3 => 3 | 4 => 4 | 72 => 102 | 0 => 0 | 76 => 105 | 105 => 192 | 21 => 21 | 5 => 5 | 70 => 99 | 20 => 20 | 37 => 100 | 75 => 104 | 127 => 136 | 164 => 162 | 46 => 123 | 119 => 208 | 139 => 211 | 138 => 210 | 146 => 219 | 51 => 151 | 80 => 110 | n => n, fun | 1 => 1 | 3 => 2 | 4 => 3 | n => n⟩
theorem Tryz.lays155 : Go.Proofs.Lays.n155 Tryz.prog Tryz.lays155_ren := {
  mixed := by kernel_rfl
  f138 := Tryz.func174.trans (congrArg some (by kernel_rfl))
  f143 := Tryz.func175.trans (congrArg some (by kernel_rfl))
  f154 := Tryz.func163.trans (congrArg some (by kernel_rfl))
  f155 := Tryz.func149.trans (congrArg some (by kernel_rfl))
  f165 := Tryz.func150.trans (congrArg some (by kernel_rfl))
  f166 := Tryz.func77.trans (congrArg some (by kernel_rfl))
  f169 := Tryz.func81.trans (congrArg some (by kernel_rfl))
  f195 := Tryz.func184.trans (congrArg some (by kernel_rfl))
  f197 := Tryz.func176.trans (congrArg some (by kernel_rfl))
  f217 := Tryz.func195.trans (congrArg some (by kernel_rfl))
  f218 := Tryz.func185.trans (congrArg some (by kernel_rfl))
  f219 := Tryz.func186.trans (congrArg some (by kernel_rfl))
  f224 := Tryz.func197.trans (congrArg some (by kernel_rfl))
  f225 := Tryz.func196.trans (congrArg some (by kernel_rfl))
  f240 := Tryz.func116.trans (congrArg some (by kernel_rfl))
  f241 := Tryz.func164.trans (congrArg some (by kernel_rfl))
  f260 := Tryz.func187.trans (congrArg some (by kernel_rfl))
  f266 := Tryz.func204.trans (congrArg some (by kernel_rfl))
  f267 := Tryz.func198.trans (congrArg some (by kernel_rfl))
  f276 := Tryz.func147.trans (congrArg some (by kernel_rfl))
  f277 := Tryz.func177.trans (congrArg some (by kernel_rfl))
  f314 := Tryz.func205.trans (congrArg some (by kernel_rfl))
  t0 := Tryz.underlying0
  a0 := Tryz.isAgg0
  z0 := Tryz.sizeOf0
  v0 := Tryz.zeroValue0
  t3 := Tryz.underlying3
  a3 := Tryz.isAgg3
  z3 := Tryz.sizeOf3
  v3 := Tryz.zeroValue3
  t4 := Tryz.underlying4
  a4 := Tryz.isAgg4
  z4 := Tryz.sizeOf4
  v4 := Tryz.zeroValue4
  t5 := Tryz.underlying5
  a5 := Tryz.isAgg5
  z5 := Tryz.sizeOf5
  v5 := Tryz.zeroValue5
  t9 := Tryz.underlying9
  a9 := Tryz.isAgg9
  z9 := Tryz.sizeOf9
  v9 := Tryz.zeroValue9
  t20 := Tryz.underlying20
  a20 := Tryz.isAgg20
  z20 := Tryz.sizeOf20
  v20 := Tryz.zeroValue20
  t21 := Tryz.underlying21
  a21 := Tryz.isAgg21
  z21 := Tryz.sizeOf21
  v21 := Tryz.zeroValue21
  t37 := Tryz.underlying100
  a37 := Tryz.isAgg100
  z37 := Tryz.sizeOf100
  v37 := Tryz.zeroValue100
  t46 := Tryz.underlying123
  a46 := Tryz.isAgg123
  z46 := Tryz.sizeOf123
  v46 := Tryz.zeroValue123
  t51 := Tryz.underlying151
  a51 := Tryz.isAgg151
  z51 := Tryz.sizeOf151
  v51 := Tryz.zeroValue151
  t70 := Tryz.underlying99
  a70 := Tryz.isAgg99
  z70 := Tryz.sizeOf99
  v70 := Tryz.zeroValue99
  t72 := Tryz.underlying102
  a72 := Tryz.isAgg102
  z72 := Tryz.sizeOf102
  v72 := Tryz.zeroValue102
  t75 := Tryz.underlying104
  a75 := Tryz.isAgg104
  z75 := Tryz.sizeOf104
  v75 := Tryz.zeroValue104
  t76 := Tryz.underlying105
  a76 := Tryz.isAgg105
  z76 := Tryz.sizeOf105
  v76 := Tryz.zeroValue105
  t105 := Tryz.underlying192
  a105 := Tryz.isAgg192
  z105 := Tryz.sizeOf192
  v105 := Tryz.zeroValue192
  t119 := Tryz.underlying208
  a119 := Tryz.isAgg208
  z119 := Tryz.sizeOf208
  t127 := Tryz.underlying136
  a127 := Tryz.isAgg136
  z127 := Tryz.sizeOf136
  v127 := Tryz.zeroValue136
  t138 := Tryz.underlying210
  a138 := Tryz.isAgg210
  z138 := Tryz.sizeOf210
  v138 := Tryz.zeroValue210
  t139 := Tryz.underlying211
  a139 := Tryz.isAgg211
  z139 := Tryz.sizeOf211
  v139 := Tryz.zeroValue211
  t146 := Tryz.underlying219
  a146 := Tryz.isAgg219
  z146 := Tryz.sizeOf219
  v146 := Tryz.zeroValue219
  t164 := Tryz.underlying162
  a164 := Tryz.isAgg162
  z164 := Tryz.sizeOf162
  v164 := Tryz.zeroValue162
  g1 := by kernel_rfl
  g3 := by kernel_rfl
  g4 := by kernel_rfl }
theorem Tryz.Builder_Extra_155 : Builder.Extra Tryz.prog Tryz.lays155_ren := {
  sizeBuilder := by kernel_rfl
  liesBuilder := by kernel_rfl
  t5 := Tryz.underlying5
  a5 := Tryz.isAgg5
  z5 := Tryz.sizeOf5
  v5 := Tryz.zeroValue5
  infoByte := by kernel_rfl
  cellsByte := by kernel_rfl
  sizeByte := by kernel_rfl
  neB5 := by decide }
open Go.RowKit Go.Lib in
/-- strings.ReplaceAll: "ReplaceAll returns a copy of the string s with all non-overlapping instances of old replaced by new.": AT AN old THAT IS NOT EMPTY: 'Lib.replaceAll s old new'. (LAID: no walk: one application.) -/
theorem Tryz.strings_ReplaceAll (s old new : ByteArray) (m : Int) (w : World) (hs : s.size < 4294967281) (hm : w.cell? ⟨1, 0, none⟩ = some (.int .i64 m)) (h1 : 1 ≤ old.size) (hlen : s.size + Lib.countB s old * new.size ≤ 140737488355328) :
    Calls Tryz.prog 149 #[.string s, .string old, .string new] w fun e w' =>
      e = .returned (.string ⟨(Lib.replaceAll s.data.toList old.data.toList new.data.toList).toArray⟩) ∧ Below w.heap.size w w' := Any.strings_ReplaceAll Tryz.lays155 Tryz.Builder_Extra_155 s old new m w hs hm h1 hlen
def Tryz.sortR_ren : Go.Shelf.Ren := ⟨fun | 6 => 60 | 15 => 99 | 14 => 98 | 28 => 134 | 29 => 135 | 20 => 126 | 21 => 127 | 22 => 128 | 23 => 129 | 24 => 130 | 25 => 131 | 26 => 132 | 27 => 133 | 46 => 154 | 47 => 155 | 48 => 156 | 49 => 157 | 50 => 158 | 57 => 169 | n => n, fun | 22 => 22 | 24 => 40 | 25 => 46 | 3 => 3 | 39 => 123 | 0 => 0 | 53 => 151 | 55 => 153 | 4 => 4 | 46 => 144 | 45 => 143 | 50 => 148 | 5 => 5 | 9 => 9 | 66 => 171 | 70 => 175 | 76 => 184 | 77 => 185 | n => n, fun | n => n⟩
theorem Tryz.sortR : Go.Proofs.SlLaysF.n6 Tryz.prog Tryz.sortR_ren := {
  mixed := by kernel_rfl
  f6 := ⟨Tryz.f60.name, by decide, Tryz.func60.trans (congrArg some (by kernel_rfl))⟩
  f14 := ⟨Tryz.f98.name, by decide, Tryz.func98.trans (congrArg some (by kernel_rfl))⟩
  f15 := Tryz.func99.trans (congrArg some (by kernel_rfl))
  f20 := ⟨Tryz.f126.name, by decide, Tryz.func126.trans (congrArg some (by kernel_rfl))⟩
  f21 := ⟨Tryz.f127.name, by decide, Tryz.func127.trans (congrArg some (by kernel_rfl))⟩
  f22 := ⟨Tryz.f128.name, by decide, Tryz.func128.trans (congrArg some (by kernel_rfl))⟩
  f23 := ⟨Tryz.f129.name, by decide, Tryz.func129.trans (congrArg some (by kernel_rfl))⟩
  f24 := ⟨Tryz.f130.name, by decide, Tryz.func130.trans (congrArg some (by kernel_rfl))⟩
  f25 := ⟨Tryz.f131.name, by decide, Tryz.func131.trans (congrArg some (by kernel_rfl))⟩
  f26 := ⟨Tryz.f132.name, by decide, Tryz.func132.trans (congrArg some (by kernel_rfl))⟩
  f27 := ⟨Tryz.f133.name, by decide, Tryz.func133.trans (congrArg some (by kernel_rfl))⟩
  f28 := Tryz.func134.trans (congrArg some (by kernel_rfl))
  f29 := Tryz.func135.trans (congrArg some (by kernel_rfl))
  f46 := ⟨Tryz.f154.name, by decide, Tryz.func154.trans (congrArg some (by kernel_rfl))⟩
  f47 := Tryz.func155.trans (congrArg some (by kernel_rfl))
  f48 := Tryz.func156.trans (congrArg some (by kernel_rfl))
  f49 := ⟨Tryz.f157.name, by decide, Tryz.func157.trans (congrArg some (by kernel_rfl))⟩
  f50 := ⟨Tryz.f158.name, by decide, Tryz.func158.trans (congrArg some (by kernel_rfl))⟩
  f57 := ⟨Tryz.f169.name, by decide, Tryz.func169.trans (congrArg some (by kernel_rfl))⟩
  t0 := Tryz.underlying0
  a0 := Tryz.isAgg0
  z0 := Tryz.sizeOf0
  v0 := Tryz.zeroValue0
  t3 := Tryz.underlying3
  a3 := Tryz.isAgg3
  z3 := Tryz.sizeOf3
  v3 := Tryz.zeroValue3
  t4 := Tryz.underlying4
  a4 := Tryz.isAgg4
  z4 := Tryz.sizeOf4
  v4 := Tryz.zeroValue4
  t5 := Tryz.underlying5
  a5 := Tryz.isAgg5
  z5 := Tryz.sizeOf5
  v5 := Tryz.zeroValue5
  t9 := Tryz.underlying9
  a9 := Tryz.isAgg9
  z9 := Tryz.sizeOf9
  v9 := Tryz.zeroValue9
  t22 := Tryz.underlying22
  a22 := Tryz.isAgg22
  z22 := Tryz.sizeOf22
  v22 := Tryz.zeroValue22
  a24 := Tryz.isAgg40
  z24 := Tryz.sizeOf40
  t25 := Tryz.underlying46
  a25 := Tryz.isAgg46
  z25 := Tryz.sizeOf46
  v25 := Tryz.zeroValue46
  t39 := Tryz.underlying123
  a39 := Tryz.isAgg123
  z39 := Tryz.sizeOf123
  v39 := Tryz.zeroValue123
  t45 := Tryz.underlying143
  a45 := Tryz.isAgg143
  z45 := Tryz.sizeOf143
  v45 := Tryz.zeroValue143
  t46 := Tryz.underlying144
  a46 := Tryz.isAgg144
  z46 := Tryz.sizeOf144
  v46 := Tryz.zeroValue144
  t50 := Tryz.underlying148
  a50 := Tryz.isAgg148
  z50 := Tryz.sizeOf148
  v50 := Tryz.zeroValue148
  t53 := Tryz.underlying151
  a53 := Tryz.isAgg151
  z53 := Tryz.sizeOf151
  v53 := Tryz.zeroValue151
  t55 := Tryz.underlying153
  a55 := Tryz.isAgg153
  z55 := Tryz.sizeOf153
  v55 := Tryz.zeroValue153
  t66 := Tryz.underlying171
  a66 := Tryz.isAgg171
  z66 := Tryz.sizeOf171
  v66 := Tryz.zeroValue171
  t70 := Tryz.underlying175
  a70 := Tryz.isAgg175
  z70 := Tryz.sizeOf175
  v70 := Tryz.zeroValue175
  t76 := Tryz.underlying184
  a76 := Tryz.isAgg184
  z76 := Tryz.sizeOf184
  v76 := Tryz.zeroValue184
  t77 := Tryz.underlying185
  a77 := Tryz.isAgg185
  z77 := Tryz.sizeOf185
  v77 := Tryz.zeroValue185 }
end Go.Proofs
end
section
/- What the listed library variables hold, as one fact on a world ('Laid'), and that it stays. -/
namespace Go.Proofs.YtmhobbdedmjmnaaGreatDoor
open Go.RowKit
theorem var_below {n : String} {g : Nat} {cs : Array Value} {w w' : World} (hg : Tryz.prog.globalNamed n = some g) (h : w.var? Tryz.prog n = some cs) (hb : Below w.heap.size w w') : w'.var? Tryz.prog n = some cs := by
  unfold World.var? at h ⊢
  rw [hg] at h ⊢
  simp only [Option.bind_some] at h ⊢
  have hlt : g < w.heap.size := by
    rcases Nat.lt_or_ge g w.heap.size with h' | h'
    · exact h'
    · rw [Array.getElem?_eq_none h'] at h; cases h
  rw [hb.block g hlt]
  exact h
theorem cell_keeps {w w' : World} (hb : Below w.heap.size w w') {a : Addr} {v : Value} (hc : w.cell? a = some v) : w'.cell? a = some v :=
  (hb.cell (World.block_lt_of_cell? w a hc)).trans hc
structure Laid (w : World) : Prop where
  pow : Lib.TabIs Tryz.prog w "internal/strconv.uint64pow10" .u64 Lib.pow10Tab
  most : ∃ m, w.cell? ⟨1, 0, none⟩ = some (.int .i64 m)
/-- .. and the errors of strconv -/
structure LaidE (w : World) : Prop where
  base : Laid w
  synt : ∃ tp p, w.var? Tryz.prog "strconv.ErrSyntax" = some #[.iface tp p]
  rang : ∃ tp p, w.var? Tryz.prog "strconv.ErrRange" = some #[.iface tp p]
theorem Laid.below {w w' : World} (h : Laid w) (hb : Below w.heap.size w w') : Laid w' := by
  obtain ⟨h1, ⟨m, h2⟩⟩ := h
  exact ⟨var_below (g := 0) (by kernel_rfl) h1 hb, ⟨m, cell_keeps hb h2⟩⟩
theorem LaidE.below {w w' : World} (h : LaidE w) (hb : Below w.heap.size w w') : LaidE w' := by
  obtain ⟨h1, ⟨t3, p3, h3⟩, ⟨t4, p4, h4⟩⟩ := h
  exact ⟨h1.below hb, ⟨t3, p3, var_below (g := 4) (by kernel_rfl) h3 hb⟩, ⟨t4, p4, var_below (g := 5) (by kernel_rfl) h4 hb⟩⟩
/-- A store makes and takes away no cell. -/
theorem isSome_setCell (w : World) (a b : Addr) (v : Value) : ((w.setCell a v).cell? b).isSome = (w.cell? b).isSome := by
  by_cases h : a = b
  · subst h
    unfold World.cell? World.setCell
    simp only [Array.getElem?_modify, if_true]
    cases hb : w.heap[a.block]? with
    | none => rfl
    | some o =>
      cases o
      case cells c e f =>
        simp only [Option.map_some]
        by_cases hs : a.spot.isSome = true
        · simp [hs]
        · simp only [hs, if_false, Bool.false_eq_true]
          simp only [Array.getElem?_setIfInBounds, if_true]
          by_cases hz : a.off < c.size <;> simp [hz]
      all_goals rfl
  · rw [World.cell?_setCell_other _ _ _ _ h]
attribute [go_sem] isSome_setCell
/-- an int64, as a test -/
def inI64 (n : Int) : Bool := decide (-9223372036854775808 ≤ n) && decide (n ≤ 9223372036854775807)
theorem inI64_bd {n : Int} (h : inI64 n = true) : -9223372036854775808 ≤ n ∧ n ≤ 9223372036854775807 := by
  simp only [inI64, Bool.and_eq_true, decide_eq_true_eq] at h; exact h
theorem inI64_mk {n : Int} (h0 : -9223372036854775808 ≤ n) (h1 : n ≤ 9223372036854775807) : inI64 n = true := by
  simp only [inI64, Bool.and_eq_true, decide_eq_true_eq]; exact ⟨h0, h1⟩
/-- the string of a list of bytes -/
def ofL (l : List UInt8) : ByteArray := ⟨l.toArray⟩
end Go.Proofs.YtmhobbdedmjmnaaGreatDoor
end
section
/- Each function reached is shown to return what the plain function beside it computes, wherever that is defined (written by a program of ours for this seat). -/
namespace Go.Proofs.YtmhobbdedmjmnaaGreatDoor.Q
open Go.RowKit Go.Proofs.YtmhobbdedmjmnaaGreatDoorW.PrintWords Go.Proofs.YtmhobbdedmjmnaaGreatDoorW.PrintLast Go.Proofs.YtmhobbdedmjmnaaGreatDoorW.PrintMore
attribute [local go_sem] max2_int min2_int max_two min_two max_three min_three max_four min_four   -- for this text's walks alone
set_option linter.unusedVariables false
set_option linter.unusedSimpArgs false
theorem zA {w : World} {g : Nat} {o : Obj} (h : w.heap[g]? = some o) (o' : Obj) : (w.alloc o').heap[g]? = some o := blk_alloc h o'
theorem zD {w : World} {g : Nat} {o : Obj} (h : w.heap[g]? = some o) : w.drew.heap[g]? = some o := h
theorem zN {w : World} {g : Nat} {o : Obj} (h : w.heap[g]? = some o) (n : Nat) : (w.drewN n).heap[g]? = some o := h
theorem yA {w W : World} (h : Below w.heap.size w W) (o : Obj) : Below w.heap.size w (W.alloc o) := below_alloc h o
theorem yN {B : Nat} {w W : World} (h : Below B w W) (n : Nat) : Below B w (W.drewN n) := pw_below_drewN h n
theorem yD {base : Nat} {w W : World} (h : Below base w W) : Below base w W.drew := h.drew
def errW : Option Int → Value
  | none => .nilIface
  | some c => .iface 0 (.int .i64 c)
theorem errW_none : errW none = .nilIface := rfl
theorem errW_some (c : Int) : errW (some c) = .iface 0 (.int .i64 c) := rfl
theorem info22 : (Tryz.prog.info? 22).map (fun i => (i.zero, i.size, i.bytes)) = some (some (.slice none 0 0), 1, 24) := by kernel_rfl
theorem info40 : (Tryz.prog.info? 40).map (fun i => (i.zero, i.size, i.bytes)) = some (some (.slice none 0 0), 1, 24) := by kernel_rfl
theorem info61 : (Tryz.prog.info? 61).map (fun i => (i.zero, i.size, i.bytes)) = some (some (.agg #[(.int .i64 0), (.int .i64 0), (.string ⟨#[]⟩)]), 3, 32) := by kernel_rfl
/-! #### struct type 61 -/
structure S61 where
  f0 : Int
  f1 : Int
  f2 : ByteArray
def z61 : S61 := ⟨(0 : Int), (0 : Int), (⟨#[]⟩ : ByteArray)⟩
def k61 : Kd S61 := Kd.iso (Kd.pair (Kd.int .i64) (Kd.pair (Kd.int .i64) Kd.string)) (fun x : S61 => (x.f0, x.f1, x.f2))
theorem k61_open {w : World} {x : S61} {cs : List Value} (h : k61.K w x cs) : cs = [.int .i64 x.f0, .int .i64 x.f1, .string x.f2] := by
  obtain ⟨_, _, rfl, rfl, ⟨_, _, rfl, rfl, rfl⟩⟩ := h
  exact rfl
theorem k61_openM {w : World} {base : Nat} {ok : Nat → Prop} {x : S61} {cs : List Value} (h : k61.M w base ok x cs) : cs = [.int .i64 x.f0, .int .i64 x.f1, .string x.f2] := by
  obtain ⟨_, _, rfl, rfl, ⟨_, _, rfl, rfl, rfl⟩⟩ := h
  exact rfl
theorem k61_mk (w : World) (x : S61)  : k61.K w x [.int .i64 x.f0, .int .i64 x.f1, .string x.f2] := ⟨[.int .i64 x.f0], [.int .i64 x.f1, .string x.f2], rfl, rfl, ⟨[.int .i64 x.f1], [.string x.f2], rfl, rfl, rfl⟩⟩
theorem k61_mkM (w : World) (base : Nat) (ok : Nat → Prop) (x : S61)  : k61.M w base ok x [.int .i64 x.f0, .int .i64 x.f1, .string x.f2] := ⟨[.int .i64 x.f0], [.int .i64 x.f1, .string x.f2], rfl, rfl, ⟨[.int .i64 x.f1], [.string x.f2], rfl, rfl, rfl⟩⟩
def rd_T61 (xs : List S61) (i : Int) : S61 := xs.getD i.toNat z61
theorem at_T61 {w : World} {A : Option Addr} {n : Nat} {xs : List S61} (h : Kd.C k61 w A n xs) (i : Int) (h0 : 0 ≤ i) (h1 : i < n) : ∃ ad , A = some ad ∧ w.cell? (ad.add (i.toNat * 3)) = some (.int .i64 (rd_T61 xs i).f0) ∧ w.cell? ⟨(ad.add (i.toNat * 3)).block, (ad.add (i.toNat * 3)).off + 1, none⟩ = some (.int .i64 (rd_T61 xs i).f1) ∧ w.cell? ⟨(ad.add (i.toNat * 3)).block, (ad.add (i.toNat * 3)).off + 2, none⟩ = some (.string (rd_T61 xs i).f2) := by
  obtain ⟨ad, c, e, _, hK, hc0⟩ := Kd.C_get h z61 i h0 h1
  have hc : ∀ j u, c[j]? = some u → w.cell? (ad.add (i.toNat * 3 + j)) = some u := hc0
  obtain rfl := k61_open hK
  exact ⟨ad, e, hc 0 _ rfl, by rw [← add_field _ _ 1 (by omega)]; exact hc 1 _ rfl, by rw [← add_field _ _ 2 (by omega)]; exact hc 2 _ rfl⟩
def rd_L3 (xs : List (List S61)) (i : Int) : (List S61) := xs.getD i.toNat ([] : List S61)
theorem at_L3 {w : World} {A : Option Addr} {n : Nat} {xs : List (List S61)} (h : Kd.C (Kd.slice 61 k61) w A n xs) (i : Int) (h0 : 0 ≤ i) (h1 : i < n) : ∃ ad A0 c0, A = some ad ∧ w.cell? (ad.add i.toNat) = some (.slice A0 (rd_L3 xs i).length c0) ∧ (rd_L3 xs i).length ≤ c0 ∧ k61.C w A0 (rd_L3 xs i).length (rd_L3 xs i) := by
  obtain ⟨ad, c, e, _, hK, hc0⟩ := Kd.C_get h ([] : List S61) i h0 h1
  have hc : ∀ j u, c[j]? = some u → w.cell? (ad.add (i.toNat * 1 + j)) = some u := hc0
  obtain ⟨A0, c0, rfl, l0, g0⟩ := hK
  exact ⟨ad, A0, c0, e, by have hq := hc 0 _ rfl; rwa [Nat.mul_one, Nat.add_zero] at hq, l0, g0⟩
/-! #### struct type 36 -/
structure S36 where
  f0 : Int
  f1 : Bool
def z36 : S36 := ⟨(0 : Int), false⟩
def k36 : Kd S36 := Kd.iso (Kd.pair (Kd.int .i64) Kd.bool) (fun x : S36 => (x.f0, x.f1))
theorem k36_open {w : World} {x : S36} {cs : List Value} (h : k36.K w x cs) : cs = [.int .i64 x.f0, .bool x.f1] := by
  obtain ⟨_, _, rfl, rfl, rfl⟩ := h
  exact rfl
theorem k36_mk (w : World) (x : S36)  : k36.K w x [.int .i64 x.f0, .bool x.f1] := ⟨[.int .i64 x.f0], [.bool x.f1], rfl, rfl, rfl⟩
def rd_T36 (xs : List S36) (i : Int) : S36 := xs.getD i.toNat z36
theorem at_T36 {w : World} {A : Option Addr} {n : Nat} {xs : List S36} (h : Kd.C k36 w A n xs) (i : Int) (h0 : 0 ≤ i) (h1 : i < n) : ∃ ad , A = some ad ∧ w.cell? (ad.add (i.toNat * 2)) = some (.int .i64 (rd_T36 xs i).f0) ∧ w.cell? ⟨(ad.add (i.toNat * 2)).block, (ad.add (i.toNat * 2)).off + 1, none⟩ = some (.bool (rd_T36 xs i).f1) := by
  obtain ⟨ad, c, e, _, hK, hc0⟩ := Kd.C_get h z36 i h0 h1
  have hc : ∀ j u, c[j]? = some u → w.cell? (ad.add (i.toNat * 2 + j)) = some u := hc0
  obtain rfl := k36_open hK
  exact ⟨ad, e, hc 0 _ rfl, by rw [← add_field _ _ 1 (by omega)]; exact hc 1 _ rfl⟩
/-! #### struct type 88 -/
structure S88 where
  f0 : Int
  f1 : Bool
def z88 : S88 := ⟨(0 : Int), false⟩
def k88 : Kd S88 := Kd.iso (Kd.pair (Kd.int .i64) Kd.bool) (fun x : S88 => (x.f0, x.f1))
theorem k88_open {w : World} {x : S88} {cs : List Value} (h : k88.K w x cs) : cs = [.int .i64 x.f0, .bool x.f1] := by
  obtain ⟨_, _, rfl, rfl, rfl⟩ := h
  exact rfl
theorem k88_mk (w : World) (x : S88)  : k88.K w x [.int .i64 x.f0, .bool x.f1] := ⟨[.int .i64 x.f0], [.bool x.f1], rfl, rfl, rfl⟩
theorem k88_mkM (w : World) (base : Nat) (ok : Nat → Prop) (x : S88)  : k88.M w base ok x [.int .i64 x.f0, .bool x.f1] := ⟨[.int .i64 x.f0], [.bool x.f1], rfl, rfl, rfl⟩
def rd_T88 (xs : List S88) (i : Int) : S88 := xs.getD i.toNat z88
theorem at_T88 {w : World} {A : Option Addr} {n : Nat} {xs : List S88} (h : Kd.C k88 w A n xs) (i : Int) (h0 : 0 ≤ i) (h1 : i < n) : ∃ ad , A = some ad ∧ w.cell? (ad.add (i.toNat * 2)) = some (.int .i64 (rd_T88 xs i).f0) ∧ w.cell? ⟨(ad.add (i.toNat * 2)).block, (ad.add (i.toNat * 2)).off + 1, none⟩ = some (.bool (rd_T88 xs i).f1) := by
 obtain ⟨ad, c, e, _, hK, hc0⟩ := Kd.C_get h z88 i h0 h1
 have hc : ∀ j u, c[j]? = some u → w.cell? (ad.add (i.toNat * 2 + j)) = some u := hc0
 obtain rfl := k88_open hK
 exact ⟨ad, e, hc 0 _ rfl, by rw [← add_field _ _ 1 (by omega)]; exact hc 1 _ rfl⟩
end Go.Proofs.YtmhobbdedmjmnaaGreatDoor.Q
end
section
/- Plain words for the layer value: what a value is, its string, its order; no program in sight. -/
namespace Go.Proofs.YtmhobbdedmjmnaaGreatDoor
open Go.RowKit Go.Proofs.YtmhobbdedmjmnaaGreatDoor.Q Go.Proofs.YtmhobbdedmjmnaaGreatDoorW.PrintWords Go.Proofs.YtmhobbdedmjmnaaGreatDoorW.PrintLast Go.Proofs.YtmhobbdedmjmnaaGreatDoorW.PrintMore
abbrev V := S61
def prL (l : List UInt8) : Bool := l.all fun c => decide (32 ≤ c.toNat) && decide (c.toNat ≤ 126)
/-- whether data are a value -/
def isB (k i : Int) (s : ByteArray) : Bool :=
  if k = 0 then decide (i = 0) && s.data.toList.isEmpty
  else if k = 1 then s.data.toList.isEmpty
  else if k = 2 then s.data.toList.isEmpty && (decide (i = 0) || decide (i = 1))
  else if k = 3 then decide (i = 0) && decide (s.size ≤ 200) && prL s.data.toList
  else false
def isV (v : V) : Bool := isB v.f0 v.f1 v.f2
/-- each ' twice -/
def dbl : List UInt8 → List UInt8
  | [] => []
  | c :: r => if c = 39 then 39 :: 39 :: dbl r else c :: dbl r
/-- the string of a value -/
def writL (k i : Int) (s : ByteArray) : List UInt8 :=
  if k = 1 then Lib.itoa i
  else if k = 2 then (if i = 1 then [116, 114, 117, 101] else [102, 97, 108, 115, 101])
  else if k = 3 then 39 :: (dbl s.data.toList ++ [39])
  else [110, 117, 108, 108]
def writ (k i : Int) (s : ByteArray) : ByteArray := ofL (writL k i s)
def okV (k i : Int) (s : ByteArray) : Bool := isB k i s && inI64 i
theorem ba_empty {s : ByteArray} (h : s.data.toList.isEmpty = true) : s = ⟨#[]⟩ := by
  have : s.data.toList = [] := by simpa using h
  apply ByteArray.ext
  apply Array.ext'
  simpa using this
theorem isB_cases {k i : Int} {s : ByteArray} (h : isB k i s = true) :
    (k = 0 ∧ i = 0 ∧ s = ⟨#[]⟩) ∨ (k = 1 ∧ s = ⟨#[]⟩) ∨ (k = 2 ∧ (i = 0 ∨ i = 1) ∧ s = ⟨#[]⟩) ∨ (k = 3 ∧ i = 0 ∧ s.size ≤ 200 ∧ prL s.data.toList = true) := by
  unfold isB at h
  by_cases h0 : k = 0
  · rw [if_pos h0] at h
    simp only [Bool.and_eq_true, decide_eq_true_eq] at h
    exact .inl ⟨h0, h.1, ba_empty h.2⟩
  rw [if_neg h0] at h
  by_cases h1 : k = 1
  · rw [if_pos h1] at h
    exact .inr (.inl ⟨h1, ba_empty h⟩)
  rw [if_neg h1] at h
  by_cases h2 : k = 2
  · rw [if_pos h2] at h
    simp only [Bool.and_eq_true, Bool.or_eq_true, decide_eq_true_eq] at h
    exact .inr (.inr (.inl ⟨h2, h.2, ba_empty h.1⟩))
  rw [if_neg h2] at h
  by_cases h3 : k = 3
  · rw [if_pos h3] at h
    simp only [Bool.and_eq_true, decide_eq_true_eq] at h
    exact .inr (.inr (.inr ⟨h3, h.1.1, h.1.2, h.2⟩))
  rw [if_neg h3] at h
  cases h
theorem okV_cases {k i : Int} {s : ByteArray} (h : okV k i s = true) :
    (k = 0 ∧ i = 0 ∧ s = ⟨#[]⟩) ∨ (k = 1 ∧ inI64 i = true ∧ s = ⟨#[]⟩) ∨ (k = 2 ∧ (i = 0 ∨ i = 1) ∧ s = ⟨#[]⟩) ∨ (k = 3 ∧ i = 0 ∧ s.size ≤ 200 ∧ prL s.data.toList = true) := by
  unfold okV at h
  rw [Bool.and_eq_true] at h
  rcases isB_cases h.1 with z | z | z | z
  · exact .inl z
  · exact .inr (.inl ⟨z.1, h.2, z.2⟩)
  · exact .inr (.inr (.inl z))
  · exact .inr (.inr (.inr z))
theorem writ_int (i : Int) {s : ByteArray} : writ 1 i s = ofL (Lib.itoa i) := rfl
theorem ofL_size (l : List UInt8) : (ofL l).size = l.length := by unfold ofL; show l.toArray.size = _; simp
theorem ofL_data (l : List UInt8) : (ofL l).data.toList = l := by unfold ofL; simp
theorem ba_ext {s t : ByteArray} (h : s.data.toList = t.data.toList) : s = t := ByteArray.ext (Array.ext' h)
theorem ofL_toList (s : ByteArray) : ofL s.data.toList = s := ba_ext (ofL_data _)
theorem append_data (s t : ByteArray) : (s ++ t).data.toList = s.data.toList ++ t.data.toList := by rw [ByteArray.data_append]; simp
theorem writ_text (s : ByteArray) : writ 3 0 s = (⟨#[39]⟩ : ByteArray) ++ ofL (dbl s.data.toList) ++ (⟨#[39]⟩ : ByteArray) := by
  apply ba_ext
  rw [append_data, append_data, ofL_data]
  unfold writ
  rw [ofL_data]
  rfl
theorem dbl_le (l : List UInt8) : (dbl l).length ≤ 2 * l.length := by
  induction l with
  | nil => simp [dbl]
  | cons c r ih => unfold dbl; split <;> simp <;> omega
theorem dbl_size (s : ByteArray) (hs : s.size ≤ 200) : (ofL (dbl s.data.toList)).size ≤ 400 := by
  have h := dbl_le s.data.toList
  have e : s.data.toList.length = s.size := Array.length_toList
  rw [ofL_size]
  omega
theorem countB_le (s old : ByteArray) (h : 1 ≤ old.size) : Lib.countB s old ≤ s.size := by
  have := Lib.countB_mul_le old h s.size s (Nat.le_refl _)
  exact Nat.le_trans (Nat.le_mul_of_pos_right _ h) this
/-- all instances replaced -/
def repR (old new s : List UInt8) : List UInt8 := Lib.replaceK old new (Lib.count s old) s
theorem repR_nil (old new : List UInt8) (h : old ≠ []) : repR old new [] = [] := by
  have : Lib.index [] old = -1 := by cases old with | nil => exact absurd rfl h | cons => rfl
  unfold repR; rw [Lib.count_miss this]; rfl
theorem repR_hit (old new s : List UInt8) (ho : old ≠ []) (hs : s ≠ []) (h : old.isPrefixOf s = true) : repR old new s = new ++ repR old new (s.drop old.length) := by
  have hi : Lib.index s old = ((0 : Nat) : Int) := by cases s with | nil => exact absurd rfl hs | cons b l => unfold Lib.index; rw [if_pos h]; rfl
  have hc := Lib.count_hit ho hi
  unfold repR
  rw [hc, Nat.add_comm, Lib.replaceK_hit old new _ s 0 hi]
  simp
theorem repR_skip (old new r : List UInt8) (c : UInt8) (ho : old ≠ []) (h : old.isPrefixOf (c :: r) = false) : repR old new (c :: r) = c :: repR old new r := by
  have hx : Lib.index (c :: r) old = if Lib.index r old == -1 then -1 else Lib.index r old + 1 := by
    show (if old.isPrefixOf (c :: r) = true then (0 : Int) else if Lib.index r old == -1 then -1 else Lib.index r old + 1) = _
    rw [h]; rfl
  by_cases hm : Lib.index r old = -1
  · have h1 : Lib.index (c :: r) old = -1 := by rw [hx, hm]; rfl
    unfold repR; rw [Lib.count_miss h1, Lib.count_miss hm]; rfl
  · have hge := Lib.index_ge r old
    obtain ⟨i, hi⟩ : ∃ i : Nat, Lib.index r old = i := ⟨(Lib.index r old).toNat, by omega⟩
    have h1 : Lib.index (c :: r) old = ((i + 1 : Nat) : Int) := by
      rw [hx, if_neg (by intro e; exact hm (beq_iff_eq.1 e)), hi]; rfl
    have e1 := Lib.count_hit ho h1
    have e2 := Lib.count_hit ho hi
    unfold repR
    rw [e1, e2, Nat.add_comm 1, Nat.add_comm 1, Lib.replaceK_hit old new _ (c :: r) (i + 1) h1, Lib.replaceK_hit old new _ r i hi]
    simp [Nat.add_right_comm i 1]
theorem replaceAll_eq (s old new : List UInt8) (h : (old == new) = false) : Lib.replaceAll s old new = repR old new s := by
  unfold Lib.replaceAll Lib.replace Lib.replaceNum repR
  rw [h]; simp
theorem replaceAll_dbl (l : List UInt8) : Lib.replaceAll l [39] [39, 39] = dbl l := by
  rw [replaceAll_eq _ _ _ (by decide)]
  induction l with
  | nil => exact repR_nil _ _ (by simp)
  | cons c r ih =>
    unfold dbl
    by_cases h : c = 39
    · subst h
      rw [repR_hit _ _ _ (by simp) (by simp) (by simp [List.isPrefixOf]), if_pos rfl]
      simp [ih]
    · rw [repR_skip _ _ _ _ (by simp) (by simp [List.isPrefixOf, Ne.symm h]), if_neg h, ih]
theorem replaceAll_half (l : List UInt8) : Lib.replaceAll (dbl l) [39, 39] [39] = l := by
  rw [replaceAll_eq _ _ _ (by decide)]
  induction l with
  | nil => exact repR_nil _ _ (by simp)
  | cons c r ih =>
    unfold dbl
    by_cases h : c = 39
    · subst h
      rw [if_pos rfl, repR_hit _ _ _ (by simp) (by simp) (by simp [List.isPrefixOf])]
      simp [ih]
    · rw [if_neg h, repR_skip _ _ _ _ (by simp) (by simp [List.isPrefixOf, Ne.symm h]), ih]
/-- strings compared -/
def cmpB (a b : ByteArray) : Int := if Op.bytesLess a.data.toList b.data.toList = true then -1 else if (a.data.toList == b.data.toList) = true then 0 else 1
/-- numbers, lists of bytes, values compared -/
def cmpI (a b : Int) : Int := if a < b then -1 else if b < a then 1 else 0
def cmpL : List UInt8 → List UInt8 → Int
  | [], [] => 0
  | [], _ :: _ => -1
  | _ :: _, [] => 1
  | a :: x, b :: y => if a < b then -1 else if b < a then 1 else cmpL x y
def ordV (k i : Int) (s : ByteArray) (k' i' : Int) (s' : ByteArray) : Int :=
  if cmpI k k' ≠ 0 then cmpI k k' else if cmpI i i' ≠ 0 then cmpI i i' else cmpL s.data.toList s'.data.toList
theorem cmpI_eq {a b : Int} (h : a = b) : cmpI a b = 0 := by unfold cmpI; rw [if_neg (by omega), if_neg (by omega)]
theorem cmpI_lt {a b : Int} (h : a < b) : cmpI a b = -1 := by unfold cmpI; rw [if_pos h]
theorem cmpI_gt {a b : Int} (h : b < a) : cmpI a b = 1 := by unfold cmpI; rw [if_neg (by omega), if_pos h]
theorem ordV_k {k i k' i' : Int} {s s' : ByteArray} (h : k < k') : ordV k i s k' i' s' = -1 := by unfold ordV; rw [cmpI_lt h]; rfl
theorem ordV_k' {k i k' i' : Int} {s s' : ByteArray} (h : k' < k) : ordV k i s k' i' s' = 1 := by unfold ordV; rw [cmpI_gt h]; rfl
theorem ordV_i {k i k' i' : Int} {s s' : ByteArray} (e : k = k') (h : i < i') : ordV k i s k' i' s' = -1 := by unfold ordV; rw [cmpI_eq e, cmpI_lt h]; rfl
theorem ordV_i' {k i k' i' : Int} {s s' : ByteArray} (e : k = k') (h : i' < i) : ordV k i s k' i' s' = 1 := by unfold ordV; rw [cmpI_eq e, cmpI_gt h]; rfl
theorem ordV_s {k i k' i' : Int} {s s' : ByteArray} (e : k = k') (h : i = i') : ordV k i s k' i' s' = cmpL s.data.toList s'.data.toList := by unfold ordV; rw [cmpI_eq e, cmpI_eq h]; rfl
theorem cmpB_eq (a b : ByteArray) : cmpB a b = cmpL a.data.toList b.data.toList := by
  unfold cmpB
  generalize a.data.toList = x
  generalize b.data.toList = y
  induction x generalizing y with
  | nil => cases y <;> simp [Op.bytesLess, cmpL]
  | cons c r ih =>
    cases y with
    | nil => simp [Op.bytesLess, cmpL]
    | cons d q =>
      have h := ih q
      simp only [Op.bytesLess, cmpL]
      by_cases h1 : c < d
      · simp [h1]
      · by_cases h2 : d < c
        · have h3 : ¬ c = d := by intro e; subst e; exact h1 h2
          simp [h1, h2, h3]
        · have h3 : c = d := by
            rw [UInt8.lt_iff_toNat_lt] at h1 h2
            exact UInt8.toNat_inj.1 (by omega)
          subst h3
          simp only [h1, decide_false, Bool.false_or, beq_self_eq_true, Bool.true_and, if_false]
          rw [← h]
          simp
/-- the first place at which p holds, or -1 -/
def idxF {α : Type} (p : α → Bool) (l : List α) : Int := match l.findIdx? p with | some i => (i : Int) | none => -1
theorem idxF_nonneg {α : Type} (p : α → Bool) (l : List α) : decide (idxF p l ≥ 0) = l.any p := by
  unfold idxF
  cases h : l.findIdx? p with
  | none =>
    rw [List.findIdx?_eq_none_iff] at h
    have : l.any p = false := by rw [List.any_eq_false]; intro x hx; simp [h x hx]
    rw [this]; simp
  | some i =>
    have h2 : l.any p = true := by
      have := List.findIdx?_isSome (xs := l) (p := p)
      rw [h] at this
      simpa using this.symm
    rw [h2]
    simp
theorem idxF_hit {α : Type} (p : α → Bool) (l : List α) (k : Nat) (h : k < l.length) (hp : p l[k] = true) (hn : ∀ j (hj : j < k), p (l[j]'(by omega)) = false) : idxF p l = k := by
  unfold idxF
  have : l.findIdx? p = some k := by
    rw [List.findIdx?_eq_some_iff_getElem]
    exact ⟨h, hp, fun j hj => by simp [hn j hj]⟩
  rw [this]
theorem idxF_miss {α : Type} (p : α → Bool) (l : List α) (hn : ∀ j (hj : j < l.length), p l[j] = false) : idxF p l = -1 := by
  unfold idxF
  have : l.findIdx? p = none := by
    rw [List.findIdx?_eq_none_iff]
    intro x hx
    obtain ⟨j, hj, rfl⟩ := List.getElem_of_mem hx
    exact hn j hj
  rw [this]
theorem bt_get (s : ByteArray) (i : Nat) (h : i < s.size) : bt s (i : Int) = ((s.data.toList[i]'(by rw [Array.length_toList]; exact h)).toNat : Int) := by
  unfold bt
  simp only [Int.toNat_natCast]
  rw [dif_pos h]
  rfl
theorem prL_cons (c : UInt8) (l : List UInt8) : prL (c :: l) = (decide (32 ≤ c.toNat) && decide (c.toNat ≤ 126) && prL l) := rfl
theorem toList_nil_iff (s : ByteArray) : (s.toList == ([] : List UInt8)) = s.data.toList.isEmpty := by
  rw [ByteArray.toList_eq]; cases s.data.toList <;> rfl
theorem wrap_small {n : Int} (h0 : 0 ≤ n) (h1 : n ≤ 9223372036854775807) : wrap64 n = n := by unfold wrap64; omega
theorem rd_at (l : List V) (k : Nat) (h : k < l.length) : rd_T61 l (k : Int) = l[k] := by
  unfold rd_T61
  simp [h]
end Go.Proofs.YtmhobbdedmjmnaaGreatDoor
end
section
/- A comparison that is total; the order of values is one; a row of values that a sort has laid, and what a world keeps then. -/
namespace Go.Proofs.YtmhobbdedmjmnaaGreatDoor
open Go.RowKit Go.Sort Go.Proofs.YtmhobbdedmjmnaaGreatDoor.Q Go.Proofs.YtmhobbdedmjmnaaGreatDoorW.PrintWords Go.Proofs.YtmhobbdedmjmnaaGreatDoorW.PrintLast Go.Proofs.YtmhobbdedmjmnaaGreatDoorW.PrintMore
theorem cmpI_turn (a b : Int) : cmpI b a = - cmpI a b := by
  unfold cmpI
  by_cases h1 : a < b
  · rw [if_pos h1, if_neg (by omega), if_pos h1]; rfl
  · rw [if_neg h1, if_neg h1]
    by_cases h2 : b < a
    · rw [if_pos h2, if_pos h2]
    · rw [if_neg h2, if_neg h2]; rfl
theorem cmpI_zero {a b : Int} (h : cmpI a b = 0) : a = b := by
  unfold cmpI at h
  split at h
  · cases h
  · split at h
    · cases h
    · omega
theorem cmpI_neg {a b : Int} : cmpI a b < 0 ↔ a < b := by
  unfold cmpI
  by_cases h1 : a < b
  · rw [if_pos h1]; omega
  · rw [if_neg h1]
    split <;> omega
theorem cmpI_tc : TC cmpI := ⟨cmpI_turn, fun _ _ => cmpI_zero, fun x y z h1 h2 => by
  have a := cmpI_turn x y
  have b := cmpI_turn y z
  have d := cmpI_turn x z
  have e1 := @cmpI_neg y x
  have e2 := @cmpI_neg z y
  have e3 := @cmpI_neg z x
  omega⟩
theorem cmpL_turn : ∀ x y : List UInt8, cmpL y x = - cmpL x y
  | [], [] => rfl
  | [], _ :: _ => rfl
  | _ :: _, [] => rfl
  | a :: x, b :: y => by
    simp only [cmpL]
    have ih := cmpL_turn x y
    simp only [UInt8.lt_iff_toNat_lt]
    by_cases h1 : a.toNat < b.toNat
    · rw [if_pos h1, if_neg (by omega), if_pos h1]; rfl
    · rw [if_neg h1, if_neg h1]
      by_cases h2 : b.toNat < a.toNat
      · rw [if_pos h2, if_pos h2]
      · rw [if_neg h2, if_neg h2, ih]
theorem cmpL_zero : ∀ x y : List UInt8, cmpL x y = 0 → x = y
  | [], [], _ => rfl
  | [], _ :: _, h => by simp [cmpL] at h
  | _ :: _, [], h => by simp [cmpL] at h
  | a :: x, b :: y, h => by
    simp only [cmpL, UInt8.lt_iff_toNat_lt] at h
    by_cases h1 : a.toNat < b.toNat
    · rw [if_pos h1] at h; cases h
    · rw [if_neg h1] at h
      by_cases h2 : b.toNat < a.toNat
      · rw [if_pos h2] at h; cases h
      · rw [if_neg h2] at h
        rw [cmpL_zero x y h, show a = b from UInt8.toNat_inj.1 (by omega)]
theorem cmpL_on : ∀ x y z : List UInt8, cmpL x y ≤ 0 → cmpL y z ≤ 0 → cmpL x z ≤ 0
  | [], _, [], _, _ => by simp [cmpL]
  | [], _, _ :: _, _, _ => by simp [cmpL]
  | _ :: _, [], _, h, _ => by simp [cmpL] at h
  | _ :: _, _ :: _, [], _, h => by simp [cmpL] at h
  | a :: x, b :: y, d :: z, h1, h2 => by
    simp only [cmpL, UInt8.lt_iff_toNat_lt] at h1 h2 ⊢
    by_cases ab : b.toNat < a.toNat
    · rw [if_neg (by omega), if_pos ab] at h1; omega
    · by_cases bd : d.toNat < b.toNat
      · rw [if_neg (by omega), if_pos bd] at h2; omega
      · by_cases ad : a.toNat < d.toNat
        · rw [if_pos ad]; omega
        · rw [if_neg ad, if_neg (by omega)]
          rw [if_neg (by omega), if_neg (by omega)] at h1 h2
          exact cmpL_on x y z h1 h2
theorem cmpL_tc : TC cmpL := ⟨cmpL_turn, cmpL_zero, cmpL_on⟩
instance : Inhabited V := ⟨⟨0, 0, ⟨#[]⟩⟩⟩
def encV (x : V) : List Value := [.int .i64 x.f0, .int .i64 x.f1, .string x.f2]
def cfV (x y : V) : Int := ordV x.f0 x.f1 x.f2 y.f0 y.f1 y.f2
theorem cfV_tc : TC cfV := by
  have h1 : TC fun (p q : Int × List UInt8) => if cmpI p.1 q.1 ≠ 0 then cmpI p.1 q.1 else cmpL p.2 q.2 := TC.lex cmpI_tc cmpL_tc (fun p => p.1) (fun p => p.2) (fun x y e f => Prod.ext e f)
  exact TC.lex cmpI_tc h1 (fun v : V => v.f0) (fun v : V => (v.f1, v.f2.data.toList)) (fun x y e f => by
    cases x; cases y
    injection f with f1 f2
    dsimp only at e f1 f2
    rw [e, f1, ba_ext f2])
theorem encV_length (x : V) : (encV x).length = 3 := rfl
theorem encV_one (x : V) : ∀ v ∈ encV x, v.oneCell' = true := by
  intro v hv
  simp only [encV, List.mem_cons, List.not_mem_nil, or_false] at hv
  rcases hv with rfl | rfl | rfl <;> rfl
theorem flat_get : ∀ (ys : List V) (j : Nat), j < ys.length * 3 → (ys.flatMap encV)[j]? = some ((encV ys.toArray[j / 3]!)[j % 3]!)
  | [], j, h => by simp at h
  | y :: r, j, h => by
    have h' : j < r.length * 3 + 3 := by rw [List.length_cons, Nat.add_mul, Nat.one_mul] at h; exact h
    rw [List.flatMap_cons]
    by_cases h3 : j < 3
    · rw [List.getElem?_append_left (by rw [encV_length]; exact h3), show j / 3 = 0 by omega, show j % 3 = j by omega]
      rw [show (y :: r).toArray[0]! = y from rfl]
      have : j = 0 ∨ j = 1 ∨ j = 2 := by omega
      rcases this with rfl | rfl | rfl <;> rfl
    · rw [List.getElem?_append_right (by rw [encV_length]; omega), encV_length, flat_get r (j - 3) (by omega), show (j - 3) / 3 = j / 3 - 1 by omega, show (j - 3) % 3 = j % 3 by omega]
      obtain ⟨q, hq⟩ : ∃ q, j / 3 = q + 1 := ⟨j / 3 - 1, by omega⟩
      rw [hq]
      simp [Array.getElem!_eq_getD, Array.getD]
theorem flat_length (ys : List V) : (ys.flatMap encV).length = ys.length * 3 := by
  induction ys with
  | nil => rfl
  | cons y r ih => rw [List.flatMap_cons, List.length_append, ih, encV_length, List.length_cons]; omega
theorem flat_reps (w : World) (base : Nat) (ok : Nat → Prop) : ∀ ys : List V, Reps (k61.M w base ok) 3 ys (ys.flatMap encV)
  | [] => Reps.none _ _
  | y :: r => Reps.front (k61_mkM w base ok y) rfl (flat_reps w base ok r) rfl
instance : DecidableEq V := fun x y => decidable_of_iff (cfV x y = 0) ⟨cfV_tc.same x y, fun h => h ▸ cfV_tc.refl x⟩
/-- a world that has grown, and whose count of draws has -/
structure BelowD (B : Nat) (w w' : World) : Prop where
  b : Below B w w'
  d : w.drawn ≤ w'.drawn
theorem BelowD.refl (B : Nat) (w : World) : BelowD B w w := ⟨Below.refl _ _, Nat.le_refl _⟩
theorem dA {w W : World} (h : BelowD w.heap.size w W) (o : Obj) : BelowD w.heap.size w (W.alloc o) := ⟨below_alloc h.b o, h.d⟩
theorem dN {B : Nat} {w W : World} (h : BelowD B w W) (n : Nat) : BelowD B w (W.drewN n) := ⟨pw_below_drewN h.b n, Nat.le_trans h.d (Nat.le_add_right _ _)⟩
theorem dD {B : Nat} {w W : World} (h : BelowD B w W) : BelowD B w W.drew := ⟨below_drew1 h.b, Nat.le_trans h.d (Nat.le_add_right _ _)⟩
theorem belowD_step {w W w2 : World} (h : BelowD w.heap.size w W) (k : BelowD W.heap.size W w2) : BelowD w.heap.size w w2 := ⟨below_step h.b k.b, Nat.le_trans h.d k.d⟩
theorem belowD_size {w W : World} (h : BelowD w.heap.size w W) : w.heap.size ≤ W.heap.size := h.b.size
theorem BelowD.grown {w W : World} (h : BelowD w.heap.size w W) : ∃ q os', W = grow (w.drewN q) os' := by
  refine ⟨W.drawn - w.drawn, W.heap.extract w.heap.size, ?_⟩
  have hh : W.heap = w.heap ++ W.heap.extract w.heap.size := by
    have hs := h.b.size
    apply Array.ext_getElem?
    intro k
    rw [Array.getElem?_append]
    by_cases hk : k < w.heap.size
    · rw [if_pos hk, h.b.block k hk]
    · rw [if_neg hk]
      simp only [Array.getElem?_extract]
      by_cases hk2 : k < W.heap.size
      · rw [if_pos (by omega), show w.heap.size + (k - w.heap.size) = k by omega]
      · rw [if_neg (by omega), Array.getElem?_eq_none (by omega)]
  obtain ⟨heap, tape, drawn, os, output⟩ := W
  obtain ⟨⟨h1, h2, h3, _, _⟩, h4⟩ := h
  dsimp only at h1 h2 h3 h4 hh
  subst h1 h2 h3
  unfold grow World.drewN
  congr 1
  show drawn = w.drawn + (drawn - w.drawn)
  have h5 : w.drawn ≤ drawn := h4
  omega
theorem below_grownW {B : Nat} {w W : World} (h : Below B w W) (hB : B ≤ W.heap.size) (n : Nat) (os : Array Obj) : Below B w (grow (W.drewN n) os) :=
  ⟨h.os, h.tape, h.output, Nat.le_trans h.size (by rw [size_grow]; exact Nat.le_add_right _ _), fun k hk => by
    show (W.heap ++ os)[k]? = _
    rw [Array.getElem?_append_left (by omega)]
    exact h.block k hk⟩
theorem grownBy_growW {w W : World} {row : Option Nat} (h : w.grownBy W row) (n : Nat) (os : Array Obj) : w.grownBy (grow (W.drewN n) os) row :=
  ⟨h.os, h.tape, h.output, Nat.le_trans h.size (by rw [size_grow]; exact Nat.le_add_right _ _), fun k hk hne => by
    show (W.heap ++ os)[k]? = _
    rw [Array.getElem?_append_left (by have := h.size; omega)]
    exact h.block k hk hne⟩
theorem grownBy_of_below {w W : World} (h : Below w.heap.size w W) (row : Option Nat) : w.grownBy W row := ⟨h.os, h.tape, h.output, h.size, fun k hk _ => h.block k hk⟩
theorem grownBy_on {a b c : World} {row : Option Nat} (h : a.grownBy b row) (k : b.grownBy c row) : a.grownBy c row :=
  ⟨k.os.trans h.os, k.tape.trans h.tape, k.output.trans h.output, Nat.le_trans h.size k.size, fun i hi hne => (k.block i (Nat.lt_of_lt_of_le hi h.size) hne).trans (h.block i hi hne)⟩
theorem below_of_grownBy {B g : Nat} {w0 w W : World} (h : Below B w0 w) (hB : B ≤ w.heap.size) (hg : B ≤ g) (k : w.grownBy W (some g)) : Below B w0 W :=
  ⟨k.os.trans h.os, k.tape.trans h.tape, k.output.trans h.output, Nat.le_trans h.size k.size, fun i hi => (k.block i (by omega) (by intro e; injection e with e; omega)).trans (h.block i hi)⟩
theorem setCells_block : ∀ (vs : List Value) (W : World) (g o e : Nat) (cur : Array Value), W.heap[g]? = some (.cells cur e (0, 0)) →
    ∃ cur' : Array Value, (W.setCells g o vs).heap[g]? = some (.cells cur' e (0, 0)) ∧ cur'.size = cur.size ∧ (∀ j, j < o → cur'[j]? = cur[j]?) ∧ W.grownBy (W.setCells g o vs) (some g)
  | [], W, g, o, e, cur, h => ⟨cur, h, rfl, fun _ _ => rfl, grownBy_of_below (Below.refl _ _) _⟩
  | v :: r, W, g, o, e, cur, h => by
    obtain ⟨cur', h1, h2, h3, h4⟩ := setCells_block r (W.setCell ⟨g, o, none⟩ v) g (o + 1) e (cur.setIfInBounds o v) (blk_set h o v)
    refine ⟨cur', h1, by rw [h2]; simp, fun j hj => ?_, ?_⟩
    · rw [h3 j (by omega), Array.getElem?_setIfInBounds, if_neg (by omega)]
    · have h5 : W.grownBy (W.setCell ⟨g, o, none⟩ v) (some g) := ⟨rfl, rfl, rfl, by simp [World.setCell], fun k _ hne => ?_⟩
      · exact grownBy_on h5 h4
      exact Below.heap_setCell W ⟨g, o, none⟩ v k (fun e => hne (by rw [e]))
/-- a zeroed box of a value, laid since W0 -/
def Bz (W0 w : World) (s : Nat) : Prop := W0.heap.size ≤ s ∧ w.heap[s]? = some (.cells #[.int .i64 0, .int .i64 0, .string (⟨#[]⟩ : ByteArray)] 61 (0, 0))
theorem Bz.on {W0 w w1 : World} {s : Nat} (h : Bz W0 w s) (hb : Below w.heap.size w w1) : Bz W0 w1 s := ⟨h.1, blk_below h.2 hb⟩
theorem Bz.new {W0 w w1 : World} {g : Nat} (hs : W0.heap.size ≤ w.heap.size) (hg : g = w.heap.size) (hbox : w1.heap[g]? = some (.cells #[.int .i64 0, .int .i64 0, .string (⟨#[]⟩ : ByteArray)] 61 (0, 0))) : Bz W0 w1 g := ⟨hg ▸ hs, hbox⟩
section
variable {P : Program} {ops : Array Oper} {rest : List Oper} {o : Oper} {a : Act} {Q : Exit → Act → World → Prop} {Kc : Act → World → Prop}
theorem blk_belowD {w w1 : World} {g : Nat} {o : Obj} (h : w.heap[g]? = some o) (hb : BelowD w.heap.size w w1) : w1.heap[g]? = some o := blk_below h hb.b
theorem box_eventD {W : World} (hgd : o.guard = none) {N : Tmp} (_hd : o.dst = some N) {cs : Array Value} {t : TypeId}
    (hrun : (execOp a.eval o).run P W = .ok (.value (.pointer (some ⟨W.heap.size, 0, none⟩))) (W.alloc (.cells cs t (0, 0))))
    (h : ∀ g, g = W.heap.size → ∀ w1, w1.heap[g]? = some (.cells cs t (0, 0)) → BelowD W.heap.size W w1 → wpList P ops Q rest (a.put o.dst (.pointer (some ⟨g, 0, none⟩))) w1) : wpList P ops Q (o :: rest) a W :=
  Kd.event_run hgd hrun (h _ rfl _ (blk_new W _) (dA (BelowD.refl _ _) _))
theorem litD {α : Type} (d : Kd α) {W : World} (base e : Nat) (hw : Region.wanted o (yielded ops a.tmps) = true) {N : Tmp} (_hd : o.dst = some N) {xs : List α} {inner : List Value} {ok okp : Nat → Prop}
    (hrun : (execOp a.eval o).run P W = .ok (.value (.slice (some ⟨W.heap.size, 0, none⟩) xs.length xs.length)) (W.alloc (.cells inner.toArray e)))
    (hrep : Reps (d.M W base okp) d.sz xs inner) (hok : ∀ k, okp k → ok k) (hfresh : ok W.heap.size) (HB : BelowD W.heap.size W W) (hbase : base ≤ W.heap.size) (hm : xs.length ≤ 9223372036854775807)
    (h : ∀ v1 w1, d.R e w1 base ok v1 xs → BelowD W.heap.size W w1 → W.grownBy w1 none → (∃ b, v1.ownBlock = some b ∧ W.heap.size ≤ b) → Kc (a.put o.dst v1) w1) : if Region.wanted o (yielded ops a.tmps) = true then Oper.wp P o a W Kc Q else Kc (a.put o.dst undef) W := by
  refine event_step hw hrun (h _ _ ⟨fun k hk => ?_, inner, ?_, ?_⟩ (dA HB _) (World.grownBy_alloc W _ none) ⟨W.heap.size, by simp [Value.ownBlock], Nat.le_refl _⟩)
  · have : W.heap.size = k := by simpa [Value.ownBlock] using hk
    subst this
    exact hfresh
  · have h2 := World.ownsRow_lit (base := base) (e := e) (size := d.sz) W inner.toArray xs.length hbase (by simpa [maxLen] using hm) (by simpa using hrep.1)
    simpa using h2
  · refine hrep.imp_ (fun p c hp => d.M_mono (fun k hk => ⟨hok k hk.1, fun he => ?_⟩) (Kd.M_below (d.M_bound hp) (below_alloc (Below.refl _ _) _)))
    have h3 : k = W.heap.size := by simpa [Value.ownBlock] using he
    have := hk.2.2.1
    omega
end
end Go.Proofs.YtmhobbdedmjmnaaGreatDoor
end
section
/- Rows in their order: by themselves, by keys, by places; both lists and what is left of one; no program in sight. -/
namespace Go.Proofs.YtmhobbdedmjmnaaGreatDoor
open Go.RowKit Go.Sort Go.Proofs.YtmhobbdedmjmnaaGreatDoor.Q Go.Proofs.YtmhobbdedmjmnaaGreatDoorW.PrintWords Go.Proofs.YtmhobbdedmjmnaaGreatDoorW.PrintLast Go.Proofs.YtmhobbdedmjmnaaGreatDoorW.PrintMore
/-- rows that are too many, or too long; with what is no value; what is wrong with lists of rows -/
def largeR (l : List (List V)) : Bool := decide (20000 < l.length) || l.any fun r => decide (16 < r.length)
def wrongR (l : List (List V)) : Bool := l.any fun r => r.any fun v => !isV v
def smallE (ls : List (List (List V))) : Int := if ls.any largeR = true then 2 else if ls.any wrongR = true then 10 else 0
/-- rows that are not too many, nor too long, for what is made of them -/
def okR (l : List (List V)) : Bool := decide (l.length ≤ 1000000) && l.all fun r => decide (r.length ≤ 1000)
theorem okR_spec {l : List (List V)} (h : okR l = true) : l.length ≤ 1000000 ∧ ∀ r ∈ l, r.length ≤ 1000 := by
  unfold okR at h
  rw [Bool.and_eq_true, List.all_eq_true] at h
  exact ⟨of_decide_eq_true h.1, fun r hr => of_decide_eq_true (h.2 r hr)⟩
theorem okR_mk {l : List (List V)} (h1 : l.length ≤ 1000000) (h2 : ∀ r ∈ l, r.length ≤ 1000) : okR l = true := by
  unfold okR
  rw [Bool.and_eq_true, List.all_eq_true]
  exact ⟨decide_eq_true h1, fun r hr => decide_eq_true (h2 r hr)⟩
theorem cmpI_cases (a b : Int) : cmpI a b = -1 ∨ cmpI a b = 0 ∨ cmpI a b = 1 := by
  unfold cmpI
  by_cases h : a < b
  · rw [if_pos h]; exact .inl rfl
  · rw [if_neg h]
    by_cases k : b < a
    · rw [if_pos k]; exact .inr (.inr rfl)
    · rw [if_neg k]; exact .inr (.inl rfl)
theorem cmpL_cases : ∀ a b : List UInt8, cmpL a b = -1 ∨ cmpL a b = 0 ∨ cmpL a b = 1
  | [], [] => .inr (.inl rfl)
  | [], _ :: _ => .inl rfl
  | _ :: _, [] => .inr (.inr rfl)
  | x :: a, y :: b => by
    simp only [cmpL]
    by_cases h : x < y
    · rw [if_pos h]; exact .inl rfl
    · rw [if_neg h]
      by_cases k : y < x
      · rw [if_pos k]; exact .inr (.inr rfl)
      · rw [if_neg k]; exact cmpL_cases a b
theorem cfV_cases (x y : V) : cfV x y = -1 ∨ cfV x y = 0 ∨ cfV x y = 1 := by
  have h1 := cmpI_cases x.f0 y.f0
  have h2 := cmpI_cases x.f1 y.f1
  have h3 := cmpL_cases x.f2.data.toList y.f2.data.toList
  show ordV x.f0 x.f1 x.f2 y.f0 y.f1 y.f2 = -1 ∨ ordV x.f0 x.f1 x.f2 y.f0 y.f1 y.f2 = 0 ∨ ordV x.f0 x.f1 x.f2 y.f0 y.f1 y.f2 = 1
  unfold ordV
  by_cases e1 : cmpI x.f0 y.f0 ≠ 0
  · rw [if_pos e1]; exact h1
  · rw [if_neg e1]
    by_cases e2 : cmpI x.f1 y.f1 ≠ 0
    · rw [if_pos e2]; exact h2
    · rw [if_neg e2]; exact h3
def placesB (l : List (List V)) (p : List Int) : Bool := !(l.any fun x => p.any fun c => decide (c < 0) || decide ((x.length : Int) ≤ c))
/-- rows compared -/
def cfR : List V → List V → Int := cmpLst cfV
theorem cfR_tc : TC cfR := cfV_tc.list
theorem TC.neg {α : Type} {c : α → α → Int} (h : TC c) : TC fun x y => - c x y where
  turn x y := by
    have := h.turn x y
    show - c y x = - - c x y
    omega
  same x y e := h.same x y (by
    have e' : - c x y = 0 := e
    omega)
  on x y z h1 h2 := by
    have a := h.turn x y
    have b := h.turn y z
    have d := h.turn x z
    have h1' : - c x y ≤ 0 := h1
    have h2' : - c y z ≤ 0 := h2
    have := h.on z y x (by omega) (by omega)
    show - c x z ≤ 0
    omega
/-- the value of a row at a place -/
def atR (r : List V) (i : Int) : V := r.getD i.toNat ⟨0, 0, ⟨#[]⟩⟩
/-- rows compared by keys (a place, and whether it falls), then by themselves -/
def cfK : List (Int × Bool) → List V → List V → Int
  | [], a, b => cfR a b
  | k :: ks, a, b => if (if k.2 = true then - cfV (atR a k.1) (atR b k.1) else cfV (atR a k.1) (atR b k.1)) ≠ 0 then (if k.2 = true then - cfV (atR a k.1) (atR b k.1) else cfV (atR a k.1) (atR b k.1)) else cfK ks a b
theorem cfK_cons (k : Int × Bool) (ks : List (Int × Bool)) (a b : List V) : cfK (k :: ks) a b = if (if k.2 = true then - cfV (atR a k.1) (atR b k.1) else cfV (atR a k.1) (atR b k.1)) ≠ 0 then (if k.2 = true then - cfV (atR a k.1) (atR b k.1) else cfV (atR a k.1) (atR b k.1)) else cfK ks a b := rfl
theorem cfK_tc : ∀ ks, TC (cfK ks)
  | [] => cfR_tc
  | (i, false) :: ks => TC.lex cfV_tc (cfK_tc ks) (fun r => atR r i) id (fun _ _ _ e => e)
  | (i, true) :: ks => TC.lex cfV_tc.neg (cfK_tc ks) (fun r => atR r i) id (fun _ _ _ e => e)
/-- the values of a row at places -/
def atP (p : List Int) (r : List V) : List V := p.map fun i => atR r i
/-- rows compared by their values at places, then by themselves -/
def cfP (p : List Int) (a b : List V) : Int := if cfR (atP p a) (atP p b) ≠ 0 then cfR (atP p a) (atP p b) else cfR a b
theorem cfP_tc (p : List Int) : TC (cfP p) := TC.lex cfR_tc cfR_tc (atP p) id (fun _ _ _ e => e)
/-- rows in canonical order; each once -/
def canR (l : List (List V)) : List (List V) := sortBy cfR l
def oneR (l : List (List V)) : List (List V) := onceOf (canR l)
theorem oneR_spec (l : List (List V)) : (oneR l).Pairwise (fun a b => cfR a b < 0) ∧ ∀ x, x ∈ oneR l ↔ x ∈ l := by
  obtain ⟨h1, h2⟩ := onceOf_spec cfR_tc (canR l) (cfR_tc.sorted l)
  exact ⟨h1, fun x => (h2 x).trans sortBy_mem⟩
theorem oneR_len (l : List (List V)) : (oneR l).length ≤ l.length := by
  unfold oneR onceOf Lib.compactUpTo
  rw [List.length_map]
  refine Nat.le_trans (List.length_filter_le _ _) ?_
  rw [List.length_range]
  exact Nat.le_of_eq (sortBy_length cfR l)
theorem cnt_sort (l : List (List V)) (x : List V) : cnt (canR l) x = cnt l x := cnt_perm (sortBy_perm cfR l) x
theorem cnt_one (l : List (List V)) (x : List V) : cnt (oneR l) x = if x ∈ l then 1 else 0 := by
  obtain ⟨h1, h2⟩ := oneR_spec l
  rw [cnt_nodup (cfR_tc.nodup h1)]
  by_cases h : x ∈ l
  · rw [if_pos h, if_pos ((h2 x).2 h)]
  · rw [if_neg h, if_neg fun e => h ((h2 x).1 e)]
/-- what the program takes, and what the definition says -/
theorem both_eq (a b : List (List V)) (all : Bool) :
    sortBy cfR (takeIn (cnt b) (if all = true then a else oneR a)) = rep (fun x => if all = true then min (cnt a x) (cnt b x) else min (min (cnt a x) (cnt b x)) 1) (oneR a) := by
  obtain ⟨h1, h2⟩ := oneR_spec a
  refine cfR_tc.eq_of_cnt (cfR_tc.sorted _) (rep_sorted cfR_tc _ h1) fun x => ?_
  rw [cnt_perm (sortBy_perm cfR _) x, cnt_in, cnt_rep _ (cfR_tc.nodup h1)]
  cases all with
  | true =>
    rw [if_pos rfl, if_pos rfl]
    by_cases h : x ∈ a
    · rw [if_pos ((h2 x).2 h)]
    · rw [if_neg (fun e => h ((h2 x).1 e)), cnt_none h]
      omega
  | false =>
    simp only [Bool.false_eq_true, if_false]
    rw [cnt_one]
    by_cases h : x ∈ a
    · rw [if_pos h, if_pos ((h2 x).2 h)]
      have := cnt_pos h
      omega
    · rw [if_neg h, if_neg (fun e => h ((h2 x).1 e))]
      omega
theorem minus_eq (a b : List (List V)) (all : Bool) :
    sortBy cfR (takeOut all (cnt b) (if all = true then a else oneR a)) = rep (fun x => if all = true then cnt a x - cnt b x else if cnt b x = 0 then 1 else 0) (oneR a) := by
  obtain ⟨h1, h2⟩ := oneR_spec a
  refine cfR_tc.eq_of_cnt (cfR_tc.sorted _) (rep_sorted cfR_tc _ h1) fun x => ?_
  rw [cnt_perm (sortBy_perm cfR _) x, cnt_rep _ (cfR_tc.nodup h1)]
  cases all with
  | true =>
    rw [cnt_out_all, if_pos rfl, if_pos rfl]
    by_cases h : x ∈ a
    · rw [if_pos ((h2 x).2 h)]
    · rw [if_neg (fun e => h ((h2 x).1 e)), cnt_none h]
      omega
  | false =>
    simp only [Bool.false_eq_true, if_false]
    rw [cnt_out_one, cnt_one]
    by_cases h : x ∈ a
    · rw [if_pos h, if_pos ((h2 x).2 h)]
    · rw [if_neg h, if_neg (fun e => h ((h2 x).1 e))]
      split <;> rfl
end Go.Proofs.YtmhobbdedmjmnaaGreatDoor
end
section
/- Each function reached is shown to return what the plain function beside it computes, wherever that is defined (written by a program of ours for this seat). -/
namespace Go.Proofs.YtmhobbdedmjmnaaGreatDoor.Q
open Go.RowKit Go.Proofs.YtmhobbdedmjmnaaGreatDoorW.PrintWords Go.Proofs.YtmhobbdedmjmnaaGreatDoorW.PrintLast Go.Proofs.YtmhobbdedmjmnaaGreatDoorW.PrintMore
attribute [local go_sem] max2_int min2_int max_two min_two max_three min_three max_four min_four   -- for this text's walks alone
set_option linter.unusedVariables false
set_option linter.unusedSimpArgs false
def rows_small_1.f (l0 : List (S61)) : Option (Bool) := some (decide ((l0.length : Int) > 16))
set_option maxHeartbeats 8000000 in
set_option maxRecDepth 100000 in
theorem rows_small_1.calls (A0 : Option Addr) (c0 : Nat) (l0 : List (S61)) (r : Bool) (w : World) (hr0 : Kd.C k61 w A0 l0.length l0) (hc0 : l0.length ≤ c0) (h : rows_small_1.f l0 = some r) :
    Calls Tryz.prog 86 #[.slice A0 l0.length c0] w fun e w' => e = .returned (.bool r) ∧ Drawn0 w w' := by
  have HR0 := Aside0.mk hr0
  have HC0 := Aside0.mk hc0
  clear hr0 hc0
  have H : (some (decide ((l0.length : Int) > 16))) = some r := h
  clear h
  obtain rfl := Option.some.inj H
  go_enter Tryz.func86, Tryz.ntmps86
  go_wp2
  go_ret
  exact ⟨by first | rfl | (simp; done) | (simp [*]; done), by repeat (first | exact Drawn0.refl _ | apply Drawn0.step)⟩
def value_printable.l0 : Nat → ByteArray → Int → Int → Option (Bool)
  | 0, _, _, _ => none
  | k + 1, x0, x5, x6 => if x6 < x5 then (if 0 ≤ x6 then (if x6 < (x0.size : Int) then (if (bt x0 x6) < 32 then (some false) else (if (bt x0 x6) > 126 then (some false) else (value_printable.l0 k x0 x5 (wrap64 (x6 + 1))))) else (none)) else (none)) else (some true)
def value_printable.f (k : Nat) (a0 : ByteArray) : Option (Bool) := value_printable.l0 k a0 (a0.size : Int) 0
set_option maxHeartbeats 8000000 in
set_option maxRecDepth 100000 in
theorem value_printable.calls (k : Nat) (a0 : ByteArray) (r : Bool) (w : World) (h : value_printable.f k a0 = some r) :
    Calls Tryz.prog 124 #[.string a0] w fun e w' => e = .returned (.bool r) ∧ Drawn0 w w' := by
  have H : (value_printable.l0 k a0 (a0.size : Int) 0) = some r := h
  clear h
  have H' := Aside0.mk H
  clear H
  go_enter Tryz.func124, Tryz.ntmps124
  go_wp2
  go_loopg [6] k (fun kq v6 w' => ∃ (x6_1 : Int), v6 = .int .i64 x6_1 ∧ Aside0 (value_printable.l0 kq a0 (a0.size : Int) x6_1 = some r) ∧ Aside0 (kq ≤ k) ∧ Drawn0 w w')
  case atStart => exact ⟨(0), (by first | rfl | (simp; done) | (simp [*]; done)), H', ⟨Nat.le_refl _⟩, by repeat (first | exact Drawn0.refl _ | apply Drawn0.step)⟩
  case round =>
    clear H'
    try clear c1
    obtain ⟨x6_1, rfl, HA, HK1, ⟨m1, rfl⟩⟩ := hrel
    cases gk with
    | zero => exact absurd HA.out (by simp [value_printable.l0])
    | succ k1 =>
      have H := HA.out
      clear HA
      simp only [value_printable.l0] at H
      by_cases c2 : x6_1 < (a0.size : Int)
      · rw [if_pos c2] at H
        have c2b0 : decide (x6_1 < (a0.size : Int)) = true := decide_eq_true c2
        clear c2
        by_cases c3 : 0 ≤ x6_1
        · rw [if_pos c3] at H
          have c3b0 : decide (0 ≤ x6_1) = true := decide_eq_true c3
          clear c3
          by_cases c4 : x6_1 < (a0.size : Int)
          · rw [if_pos c4] at H
            have c4b0 : decide (x6_1 < (a0.size : Int)) = true := decide_eq_true c4
            clear c4
            by_cases c6 : (bt a0 x6_1) < 32
            · rw [if_pos c6] at H
              have c6b0 : decide ((bt a0 x6_1) < 32) = true := decide_eq_true c6
              clear c6
              obtain rfl := Option.some.inj H
              have p5 : 0 ≤ (x6_1 : Int) := of_decide_eq_true (by first | (with_reducible assumption) | assumption)
              have q5 : x6_1 < (a0.size : Int) := of_decide_eq_true (by first | (with_reducible assumption) | assumption)
              have hx5 := bt_at a0 x6_1
              replace p5 := eq_true p5
              replace q5 := eq_true q5
              go_wp2
              go_ret
              exact ⟨by first | rfl | (simp; done) | (simp [*]; done), by repeat (first | exact Drawn0.refl _ | apply Drawn0.step)⟩
            · rw [if_neg c6] at H
              have c6b0 : decide ((bt a0 x6_1) < 32) = false := decide_eq_false c6
              clear c6
              by_cases c8 : (bt a0 x6_1) > 126
              · rw [if_pos c8] at H
                have c8b0 : decide (126 < (bt a0 x6_1)) = true := decide_eq_true c8
                clear c8
                obtain rfl := Option.some.inj H
                have p5 : 0 ≤ (x6_1 : Int) := of_decide_eq_true (by first | (with_reducible assumption) | assumption)
                have q5 : x6_1 < (a0.size : Int) := of_decide_eq_true (by first | (with_reducible assumption) | assumption)
                have hx5 := bt_at a0 x6_1
                replace p5 := eq_true p5
                replace q5 := eq_true q5
                have p7 : 0 ≤ (x6_1 : Int) := of_decide_eq_true (by first | (with_reducible assumption) | assumption)
                have q7 : x6_1 < (a0.size : Int) := of_decide_eq_true (by first | (with_reducible assumption) | assumption)
                have hx7 := bt_at a0 x6_1
                replace p7 := eq_true p7
                replace q7 := eq_true q7
                go_wp2
                go_ret
                exact ⟨by first | rfl | (simp; done) | (simp [*]; done), by repeat (first | exact Drawn0.refl _ | apply Drawn0.step)⟩
              · rw [if_neg c8] at H
                have c8b0 : decide (126 < (bt a0 x6_1)) = false := decide_eq_false c8
                clear c8
                have H' := Aside0.mk H
                clear H
                have p5 : 0 ≤ (x6_1 : Int) := of_decide_eq_true (by first | (with_reducible assumption) | assumption)
                have q5 : x6_1 < (a0.size : Int) := of_decide_eq_true (by first | (with_reducible assumption) | assumption)
                have hx5 := bt_at a0 x6_1
                replace p5 := eq_true p5
                replace q5 := eq_true q5
                have p7 : 0 ≤ (x6_1 : Int) := of_decide_eq_true (by first | (with_reducible assumption) | assumption)
                have q7 : x6_1 < (a0.size : Int) := of_decide_eq_true (by first | (with_reducible assumption) | assumption)
                have hx7 := bt_at a0 x6_1
                replace p7 := eq_true p7
                replace q7 := eq_true q7
                go_wp2
                go_roundg k1
                case measure => have := HK1.out; omega
                case rel => exact ⟨(wrap64 (x6_1 + 1)), (by first | rfl | (simp; done) | (simp [*]; done)), H', ⟨by have := HK1.out; omega⟩, by repeat (first | exact Drawn0.refl _ | apply Drawn0.step)⟩
          · rw [if_neg c4] at H
            exact absurd H (by simp)
        · rw [if_neg c3] at H
          exact absurd H (by simp)
      · rw [if_neg c2] at H
        have c2b0 : decide (x6_1 < (a0.size : Int)) = false := decide_eq_false c2
        clear c2
        obtain rfl := Option.some.inj H
        go_wp2
        go_ret
        exact ⟨by first | rfl | (simp; done) | (simp [*]; done), by repeat (first | exact Drawn0.refl _ | apply Drawn0.step)⟩
theorem value_printable.l0_at (s : ByteArray) (hs : s.size ≤ 4611686018427387904) : ∀ (d i k : Nat), i + d = s.size → d < k → value_printable.l0 k s (s.size : Int) (i : Int) = some (prL (s.data.toList.drop i)) := by
  intro d
  induction d with
  | zero =>
    intro i k hi hk
    obtain ⟨k, rfl⟩ : ∃ m, k = m + 1 := ⟨k - 1, by omega⟩
    simp only [value_printable.l0]
    rw [if_neg (by omega), List.drop_of_length_le (by rw [Array.length_toList]; exact Nat.le_of_eq hi.symm)]
    rfl
  | succ d ih =>
    intro i k hi hk
    obtain ⟨k, rfl⟩ : ∃ m, k = m + 1 := ⟨k - 1, by omega⟩
    have hlt : i < s.size := by omega
    have hd : s.data.toList.drop i = s.data.toList[i]'(by rw [Array.length_toList]; exact hlt) :: s.data.toList.drop (i + 1) := List.drop_eq_getElem_cons (by rw [Array.length_toList]; exact hlt)
    simp only [value_printable.l0]
    rw [if_pos (by omega), if_pos (by omega), if_pos (by omega), bt_get s i hlt, hd, prL_cons, wrap_small (by omega) (by omega)]
    generalize s.data.toList[i]'(by rw [Array.length_toList]; exact hlt) = c
    by_cases h1 : (c.toNat : Int) < 32
    · rw [if_pos h1]; have : ¬ 32 ≤ c.toNat := by omega
      simp [this]
    · rw [if_neg h1]
      by_cases h2 : (c.toNat : Int) > 126
      · rw [if_pos h2]; have : ¬ c.toNat ≤ 126 := by omega
        simp [this]
      · rw [if_neg h2]; have a1 : 32 ≤ c.toNat := by omega
        have a2 : c.toNat ≤ 126 := by omega
        have := ih (i + 1) k (by omega) (by omega)
        rw [show ((i : Int) + 1) = ((i + 1 : Nat) : Int) by omega, this]
        simp [a1, a2]
def value_printable_s.f (a0 : ByteArray) : Option (Bool) := if a0.size ≤ 4611686018427387904 then some (prL a0.data.toList) else none
theorem value_printable_s.calls (a0 : ByteArray) (r : Bool) (w : World) (h : value_printable_s.f a0 = some r) :
  Calls Tryz.prog 124 #[.string a0] w fun e w' => e = .returned (.bool r) ∧ Drawn0 w w' := by
 unfold value_printable_s.f at h
 by_cases hs : a0.size ≤ 4611686018427387904
 ·rw [if_pos hs] at h
  obtain rfl := Option.some.inj h
  exact value_printable.calls (a0.size + 1) a0 _ w (value_printable.l0_at a0 hs a0.size 0 (a0.size + 1) (by omega) (by omega))
 ·rw [if_neg hs] at h; cases h
end Go.Proofs.YtmhobbdedmjmnaaGreatDoor.Q
end
section
/- What the words Cut and CutRow of the laws on rows answer, in plain words. -/
namespace Go.Proofs.YtmhobbdedmjmnaaGreatDoor
open Go.RowKit Go.Proofs.YtmhobbdedmjmnaaGreatDoor.Q Go.Proofs.YtmhobbdedmjmnaaGreatDoorW.PrintWords Go.Proofs.YtmhobbdedmjmnaaGreatDoorW.PrintLast Go.Proofs.YtmhobbdedmjmnaaGreatDoorW.PrintMore
theorem rdL_at (l : List (List V)) (k : Nat) (h : k < l.length) : rd_L3 l (k : Int) = l[k] := by
  unfold rd_L3
  simp [h]
/-- rows that are not long, of values with no long text -/
def RowOk (r : List V) : Prop := r.length ≤ 100 ∧ ∀ v ∈ r, v.f2.size ≤ 1000 ∧ inI64 v.f1 = true
def RowsOk (n : Nat) (l : List (List V)) : Prop := l.length ≤ n ∧ ∀ r ∈ l, RowOk r
end Go.Proofs.YtmhobbdedmjmnaaGreatDoor
end
section
/- Plain words for the layer value: strings are read back (no program in sight). -/
namespace Go.Proofs.YtmhobbdedmjmnaaGreatDoor
open Go.RowKit Go.Proofs.YtmhobbdedmjmnaaGreatDoor.Q Go.Proofs.YtmhobbdedmjmnaaGreatDoorW.PrintWords Go.Proofs.YtmhobbdedmjmnaaGreatDoorW.PrintLast Go.Proofs.YtmhobbdedmjmnaaGreatDoorW.PrintMore
theorem decDigits_ne (u : Nat) : Lib.decDigits u ≠ [] := by
  rw [Lib.decDigits]; split <;> simp
theorem decDigits_digit (u : Nat) : ∀ c ∈ Lib.decDigits u, 48 ≤ c.toNat ∧ c.toNat ≤ 57 := by
  induction u using Nat.strongRecOn with
  | _ u ih =>
    intro c hc
    rw [Lib.decDigits] at hc
    have hd : ∀ z, z < 10 → (UInt8.ofNat (48 + z)).toNat = 48 + z := by intro z hz; rw [UInt8.toNat_ofNat']; omega
    split at hc
    · rename_i h
      rw [List.mem_singleton] at hc
      rw [hc, hd u h]; omega
    · rename_i h
      rw [List.mem_append, List.mem_singleton] at hc
      rcases hc with hc | hc
      · exact ih (u / 10) (by omega) c hc
      · rw [hc, hd _ (by omega)]; omega
theorem parseM_snoc (M : Nat) (d : UInt8) (hd : 48 ≤ d.toNat ∧ d.toNat ≤ 57) : ∀ (l : List UInt8) (acc v : Nat), Lib.parseUintM M acc l = .ok v → v ≤ 1844674407370955161 → v * 10 + (d.toNat - 48) ≤ M →
    Lib.parseUintM M acc (l ++ [d]) = .ok (v * 10 + (d.toNat - 48)) := by
  intro l
  induction l with
  | nil =>
    intro acc v h h1 h2
    have e : acc = v := by simpa [Lib.parseUintM] using h
    subst e
    simp only [List.nil_append, Lib.parseUintM]
    rw [if_pos hd, if_neg (by omega), if_neg (by omega)]
  | cons c r ih =>
    intro acc v h h1 h2
    simp only [List.cons_append, Lib.parseUintM] at h ⊢
    split at h
    · rename_i hc
      rw [if_pos hc]
      split at h
      · cases h
      · rename_i h3
        rw [if_neg h3]
        split at h
        · cases h
        · rename_i h4
          rw [if_neg h4]
          exact ih _ _ h h1 h2
    · cases h
theorem parseM_digits (u : Nat) (hu : u ≤ 18446744073709551615) : Lib.parseUintM 18446744073709551615 0 (Lib.decDigits u) = .ok u := by
  induction u using Nat.strongRecOn with
  | _ u ih =>
    have hd : ∀ z, z < 10 → (UInt8.ofNat (48 + z)).toNat = 48 + z := by intro z hz; rw [UInt8.toNat_ofNat']; omega
    rw [Lib.decDigits]
    split
    · rename_i h
      simp only [Lib.parseUintM]
      rw [hd u h, if_pos (by omega), if_neg (by omega), if_neg (by omega)]
      congr 1
      omega
    · rename_i h
      have := parseM_snoc 18446744073709551615 (UInt8.ofNat (48 + u % 10)) (by rw [hd _ (by omega)]; omega) (Lib.decDigits (u / 10)) 0 (u / 10) (ih (u / 10) (by omega) (by omega)) (by omega) (by rw [hd _ (by omega)]; omega)
      rw [this, hd _ (by omega)]
      congr 1
      omega
theorem itoa_cases (n : Int) : (n < 0 ∧ Lib.itoa n = 45 :: Lib.decDigits n.natAbs) ∨ (0 ≤ n ∧ Lib.itoa n = Lib.decDigits n.natAbs) := by
  unfold Lib.itoa
  by_cases h : n < 0
  · rw [if_pos h]; exact .inl ⟨h, rfl⟩
  · rw [if_neg h]; exact .inr ⟨by omega, by congr 1; omega⟩
theorem parse_itoa (n : Int) (h : inI64 n = true) : Lib.parseIntB 64 (Lib.itoa n) = .ok n := by
  obtain ⟨h0, h1⟩ := inI64_bd h
  have hM : (2 ^ 64 - 1 : Nat) = 18446744073709551615 := rfl
  have hB : (2 ^ (64 - 1) : Nat) = 9223372036854775808 := rfl
  rcases itoa_cases n with ⟨hn, e⟩ | ⟨hn, e⟩
  · rw [e]
    have hp : Lib.parseUintB 64 (Lib.decDigits n.natAbs) = .ok n.natAbs := by
      unfold Lib.parseUintB
      rw [if_neg (decDigits_ne _), hM]
      exact parseM_digits _ (by omega)
    have h45 : (45 : UInt8).toNat = 45 := rfl
    simp only [Lib.parseIntB, h45]
    rw [if_pos (Or.inr trivial), hp]
    simp only [hB]
    rw [if_neg (by simp), if_neg (by omega), if_pos trivial]
    congr 1
    omega
  · rw [e]
    have hp : Lib.parseUintB 64 (Lib.decDigits n.natAbs) = .ok n.natAbs := by
      unfold Lib.parseUintB
      rw [if_neg (decDigits_ne _), hM]
      exact parseM_digits _ (by omega)
    have hne := decDigits_ne n.natAbs
    have hdig := decDigits_digit n.natAbs
    generalize Lib.decDigits n.natAbs = l at hp hne hdig
    cases l with
    | nil => exact absurd rfl hne
    | cons c r =>
      have hc := hdig c List.mem_cons_self
      simp only [Lib.parseIntB]
      rw [if_neg (by omega), hp]
      simp only [hB]
      rw [if_neg (by omega), if_neg (by omega), if_neg (by omega)]
      congr 1
      omega
theorem itoa_head (n : Int) : ∃ c r, Lib.itoa n = c :: r ∧ (c.toNat = 45 ∨ 48 ≤ c.toNat ∧ c.toNat ≤ 57) := by
  rcases itoa_cases n with ⟨_, e⟩ | ⟨_, e⟩
  · exact ⟨45, _, e, .inl rfl⟩
  · have hne := decDigits_ne n.natAbs
    have hdig := decDigits_digit n.natAbs
    rw [e]
    cases h : Lib.decDigits n.natAbs with
    | nil => exact absurd h hne
    | cons c r => exact ⟨c, r, rfl, .inr (hdig c (by rw [h]; exact List.mem_cons_self))⟩
/-- the value whose string s could be -/
def quoted (s : ByteArray) : Bool := decide (1 < s.size) && ((bt s 0 == 39) && (bt s ((s.size : Int) - 1) == 39))
def cand (s : ByteArray) : Option (Int × Int × ByteArray) :=
  if s.data.toList = [110, 117, 108, 108] then some (0, 0, ⟨#[]⟩)
  else if s.data.toList = [116, 114, 117, 101] then some (2, 1, ⟨#[]⟩)
  else if s.data.toList = [102, 97, 108, 115, 101] then some (2, 0, ⟨#[]⟩)
  else if quoted s = true then some (3, 0, ofL (Lib.replaceAll (s.extract 1 (s.size - 1)).data.toList [39, 39] [39]))
  else match Lib.parseIntB 64 s.data.toList with
    | .ok v => some (1, v, ⟨#[]⟩)
    | _ => none
def readC (s : ByteArray) : Int × Int × ByteArray × Bool :=
  match cand s with
  | some (a, b, c) => if isB a b c = true ∧ writL a b c = s.data.toList then (a, b, c, true) else (0, 0, ⟨#[]⟩, false)
  | none => (0, 0, ⟨#[]⟩, false)
theorem cand_text (t : ByteArray) : cand (writ 3 0 t) = some (3, 0, t) := by
  have hw := writ_text t
  have hd : (writ 3 0 t).data.toList = 39 :: (dbl t.data.toList ++ [39]) := by unfold writ; rw [ofL_data]; rfl
  have hl : (writ 3 0 t).size = (dbl t.data.toList).length + 2 := by
    have : (writ 3 0 t).size = (writ 3 0 t).data.toList.length := Array.length_toList.symm
    rw [this, hd]; simp
  generalize writ 3 0 t = s at hd hl
  have hlen : s.data.toList.length = s.size := Array.length_toList
  unfold cand
  rw [hd, if_neg (by simp), if_neg (by simp), if_neg (by simp)]
  have hq : quoted s = true := by
    have b0 : 0 < s.size := by rw [hl]; exact Nat.succ_pos _
    have b1 : s.size - 1 < s.size := by rw [hl]; exact Nat.lt_succ_self _
    have e0 := bt_get s 0 b0
    have e1 := bt_get s (s.size - 1) b1
    have k0 : s.data.toList[0]'(by rw [hlen]; exact b0) = 39 := by simp [hd]
    have k1 : s.data.toList[s.size - 1]'(by rw [hlen]; exact b1) = 39 := by simp [hd, hl]
    rw [k0] at e0
    rw [k1] at e1
    have b2 : 1 ≤ s.size := b0
    have e2 : ((s.size : Int) - 1) = ((s.size - 1 : Nat) : Int) := by omega
    have b3 : 1 < s.size := by rw [hl]; exact Nat.succ_lt_succ (Nat.succ_pos _)
    unfold quoted
    rw [e2, e1, show bt s 0 = ((39 : UInt8).toNat : Int) from e0]
    simp [b3]
  rw [if_pos hq]
  have hx : (s.extract 1 (s.size - 1)).data.toList = dbl t.data.toList := by
    rw [ByteArray.data_extract, Array.toList_extract, hd, hl]
    simp
  rw [hx, replaceAll_half, ofL_toList]
theorem cand_writ {a b : Int} {c : ByteArray} (h : okV a b c = true) : cand (writ a b c) = some (a, b, c) := by
  rcases okV_cases h with ⟨rfl, rfl, rfl⟩ | ⟨rfl, hi, rfl⟩ | ⟨rfl, rfl | rfl, rfl⟩ | ⟨rfl, rfl, hs, hp⟩
  · rfl
  · have hd : (writ 1 b ⟨#[]⟩).data.toList = Lib.itoa b := by unfold writ; rw [ofL_data]; rfl
    obtain ⟨d, r, e, hdig⟩ := itoa_head b
    have hdig' : ¬ d.toNat = 110 ∧ ¬ d.toNat = 116 ∧ ¬ d.toNat = 102 ∧ ¬ d.toNat = 39 := by omega
    have hne : ∀ z : UInt8, ¬ d.toNat = z.toNat → ¬ d = z := fun z hz e => hz (by rw [e])
    unfold cand
    rw [hd, if_neg (by rw [e]; intro x; injection x with x1 _; exact hdig'.1 (by rw [x1]; rfl)), if_neg (by rw [e]; intro x; injection x with x1 _; exact hdig'.2.1 (by rw [x1]; rfl)), if_neg (by rw [e]; intro x; injection x with x1 _; exact hdig'.2.2.1 (by rw [x1]; rfl))]
    have hq : ¬ quoted (writ 1 b ⟨#[]⟩) = true := by
      unfold quoted
      have hsz : 0 < (writ 1 b ⟨#[]⟩).size := by
        have : (writ 1 b ⟨#[]⟩).size = (writ 1 b ⟨#[]⟩).data.toList.length := Array.length_toList.symm
        rw [this, hd, e]; simp
      have e0 := bt_get (writ 1 b ⟨#[]⟩) 0 hsz
      have k0 : (writ 1 b ⟨#[]⟩).data.toList[0]'(by rw [Array.length_toList]; exact hsz) = d := by simp [hd, e]
      rw [k0] at e0
      rw [show ((0 : Int)) = ((0 : Nat) : Int) from rfl, e0]
      have : ¬ (d.toNat : Int) = 39 := by omega
      simp [this]
    rw [if_neg hq, parse_itoa b hi]
  · rfl
  · rfl
  · exact cand_text c
theorem readC_writ {a b : Int} {c : ByteArray} (h : okV a b c = true) : readC (writ a b c) = (a, b, c, true) := by
  unfold readC
  rw [cand_writ h]
  have h2 : isB a b c = true := by unfold okV at h; rw [Bool.and_eq_true] at h; exact h.1
  simp only
  rw [if_pos ⟨h2, by unfold writ; rw [ofL_data]⟩]
/-- the string tells the value -/
theorem writ_inj {a b a' b' : Int} {c c' : ByteArray} (h : okV a b c = true) (h' : okV a' b' c' = true) (e : writ a b c = writ a' b' c') : a = a' ∧ b = b' ∧ c = c' := by
  have h1 := readC_writ h
  rw [e, readC_writ h'] at h1
  simp only [Prod.mk.injEq, and_true] at h1
  exact ⟨h1.1.symm, h1.2.1.symm, h1.2.2.symm⟩
end Go.Proofs.YtmhobbdedmjmnaaGreatDoor
end
section
/- The name of a row: the strings of its values, each with a comma behind it; it tells right rows apart; no program in sight. -/
namespace Go.Proofs.YtmhobbdedmjmnaaGreatDoor
open Go.RowKit Go.Proofs.YtmhobbdedmjmnaaGreatDoor.Q Go.Proofs.YtmhobbdedmjmnaaGreatDoorW.PrintWords Go.Proofs.YtmhobbdedmjmnaaGreatDoorW.PrintLast Go.Proofs.YtmhobbdedmjmnaaGreatDoorW.PrintMore
def OkV (v : V) : Prop := okV v.f0 v.f1 v.f2 = true
def wrL (v : V) : List UInt8 := writL v.f0 v.f1 v.f2
/-- the name of a row -/
def nameL : List V → List UInt8
  | [] => []
  | v :: r => wrL v ++ 44 :: nameL r
theorem nameL_append : ∀ a b : List V, nameL (a ++ b) = nameL a ++ nameL b
  | [], _ => rfl
  | v :: a, b => by
    show wrL v ++ 44 :: nameL (a ++ b) = (wrL v ++ 44 :: nameL a) ++ nameL b
    rw [nameL_append a b, List.append_assoc]; rfl
theorem wrL_len {v : V} (h : OkV v) : (wrL v).length ≤ 402 := by
  unfold wrL writL
  rcases okV_cases h with ⟨e0, _, _⟩ | ⟨e0, hi, _⟩ | ⟨e0, e1, _⟩ | ⟨e0, _, hs, _⟩
  · rw [e0, if_neg (by decide), if_neg (by decide), if_neg (by decide)]
    decide
  · rw [e0, if_pos rfl]
    have hb := inI64_bd hi
    have := Lib.itoa_length_le v.f1 hb.1 hb.2
    omega
  · rw [e0, if_neg (by decide), if_pos rfl]
    by_cases e : v.f1 = 1
    · rw [if_pos e]; decide
    · rw [if_neg e]; decide
  · rw [e0, if_neg (by decide), if_neg (by decide), if_pos rfl]
    have := dbl_size v.f2 hs
    rw [ofL_size] at this
    simp only [List.length_cons, List.length_append, List.length_nil]
    omega
theorem nameL_len : ∀ l : List V, (∀ v ∈ l, OkV v) → (nameL l).length ≤ l.length * 403
  | [], _ => Nat.le_refl _
  | v :: l, h => by
    have h1 := wrL_len (h v List.mem_cons_self)
    have h2 := nameL_len l fun u hu => h u (List.mem_cons_of_mem _ hu)
    show (wrL v ++ 44 :: nameL l).length ≤ (l.length + 1) * 403
    rw [List.length_append, List.length_cons]
    omega
/-- a right row, that is not too long -/
def okRow (l : List V) : Bool := decide (l.length ≤ 1000) && l.all fun v => okV v.f0 v.f1 v.f2
theorem okRow_spec {l : List V} (h : okRow l = true) : l.length ≤ 1000 ∧ ∀ v ∈ l, OkV v := by
  unfold okRow at h
  rw [Bool.and_eq_true, List.all_eq_true] at h
  exact ⟨of_decide_eq_true h.1, fun v hv => h.2 v hv⟩
theorem okRow_mk {l : List V} (h1 : l.length ≤ 1000) (h2 : ∀ v ∈ l, OkV v) : okRow l = true := by
  unfold okRow
  rw [Bool.and_eq_true, List.all_eq_true]
  exact ⟨decide_eq_true h1, fun v hv => h2 v hv⟩
/-- a string without a comma ends at the comma behind it -/
theorem upto_comma : ∀ (a b s t : List UInt8), (∀ c ∈ a, c ≠ 44) → (∀ c ∈ b, c ≠ 44) → a ++ 44 :: s = b ++ 44 :: t → a = b ∧ s = t
  | [], [], s, t, _, _, e => by simpa using e
  | [], d :: b, s, t, _, hb, e => by
    simp only [List.nil_append, List.cons_append, List.cons.injEq] at e
    exact absurd e.1.symm (hb d List.mem_cons_self)
  | d :: a, [], s, t, ha, _, e => by
    simp only [List.nil_append, List.cons_append, List.cons.injEq] at e
    exact absurd e.1 (ha d List.mem_cons_self)
  | x :: a, y :: b, s, t, ha, hb, e => by
    simp only [List.cons_append, List.cons.injEq] at e
    obtain ⟨h1, h2⟩ := upto_comma a b s t (fun c hc => ha c (List.mem_cons_of_mem _ hc)) (fun c hc => hb c (List.mem_cons_of_mem _ hc)) e.2
    exact ⟨by rw [e.1, h1], h2⟩
/-- a text with its quotes doubled ends at the first quote that is alone -/
theorem upto_quote : ∀ (a b s t : List UInt8), dbl a ++ 39 :: 44 :: s = dbl b ++ 39 :: 44 :: t → a = b ∧ s = t
  | [], [], s, t, e => by simpa [dbl] using e
  | [], d :: b, s, t, e => by
    simp only [dbl, List.nil_append] at e
    by_cases h : d = 39
    · rw [if_pos h] at e
      simp only [List.cons_append, List.cons.injEq] at e
      exact absurd e.2.1 (by decide)
    · rw [if_neg h] at e
      simp only [List.cons_append, List.cons.injEq] at e
      exact absurd e.1.symm h
  | d :: a, [], s, t, e => by
    simp only [dbl, List.nil_append] at e
    by_cases h : d = 39
    · rw [if_pos h] at e
      simp only [List.cons_append, List.cons.injEq] at e
      exact absurd e.2.1 (by decide)
    · rw [if_neg h] at e
      simp only [List.cons_append, List.cons.injEq] at e
      exact absurd e.1 h
  | x :: a, y :: b, s, t, e => by
    simp only [dbl] at e
    by_cases h : x = 39
    · rw [if_pos h] at e
      by_cases k : y = 39
      · rw [if_pos k] at e
        simp only [List.cons_append, List.cons.injEq, true_and] at e
        obtain ⟨h1, h2⟩ := upto_quote a b s t e
        exact ⟨by rw [h, k, h1], h2⟩
      · rw [if_neg k] at e
        simp only [List.cons_append, List.cons.injEq] at e
        exact absurd e.1.symm k
    · rw [if_neg h] at e
      by_cases k : y = 39
      · rw [if_pos k] at e
        simp only [List.cons_append, List.cons.injEq] at e
        exact absurd e.1 h
      · rw [if_neg k] at e
        simp only [List.cons_append, List.cons.injEq] at e
        obtain ⟨h1, h2⟩ := upto_quote a b s t e.2
        exact ⟨by rw [e.1, h1], h2⟩
theorem itoa_chars (n : Int) : ∀ c ∈ Lib.itoa n, c.toNat = 45 ∨ 48 ≤ c.toNat ∧ c.toNat ≤ 57 := by
  intro c hc
  rcases itoa_cases n with ⟨_, e⟩ | ⟨_, e⟩
  · rw [e] at hc
    rcases List.mem_cons.1 hc with h | h
    · rw [h]; exact .inl rfl
    · exact .inr (decDigits_digit _ c h)
  · rw [e] at hc
    exact .inr (decDigits_digit _ c hc)
/-- the string of a value begins with a quote just where it is a text; else no comma is in it, and it is not empty -/
theorem wrL_cases {v : V} (h : OkV v) : (∃ t, wrL v = 39 :: (dbl t ++ [39])) ∨ ((∀ c ∈ wrL v, c ≠ 44) ∧ ∃ c r, wrL v = c :: r ∧ c ≠ 39) := by
  unfold wrL writL
  rcases okV_cases h with ⟨e0, _, _⟩ | ⟨e0, _, _⟩ | ⟨e0, e1, _⟩ | ⟨e0, _, _, _⟩
  · right
    rw [e0, if_neg (by decide), if_neg (by decide), if_neg (by decide)]
    exact ⟨by decide, 110, _, rfl, by decide⟩
  · right
    rw [e0, if_pos rfl]
    refine ⟨fun c hc => ?_, ?_⟩
    · intro e
      have := itoa_chars v.f1 c hc
      rw [e] at this
      revert this; decide
    · obtain ⟨c, r, e, hd⟩ := itoa_head v.f1
      refine ⟨c, r, e, fun q => ?_⟩
      rw [q] at hd
      revert hd; decide
  · right
    rw [e0, if_neg (by decide), if_pos rfl]
    by_cases e : v.f1 = 1
    · rw [if_pos e]; exact ⟨by decide, 116, _, rfl, by decide⟩
    · rw [if_neg e]; exact ⟨by decide, 102, _, rfl, by decide⟩
  · left
    rw [e0, if_neg (by decide), if_neg (by decide), if_pos rfl]
    exact ⟨_, rfl⟩
theorem wrL_inj {v u : V} (hv : OkV v) (hu : OkV u) (e : wrL v = wrL u) : v = u := by
  obtain ⟨h0, h1, h2⟩ := writ_inj (a := v.f0) (b := v.f1) (c := v.f2) (a' := u.f0) (b' := u.f1) (c' := u.f2) hv hu (by unfold writ; exact congrArg ofL e)
  cases v; cases u
  dsimp only at h0 h1 h2
  rw [h0, h1, h2]
theorem wrL_upto {v u : V} (hv : OkV v) (hu : OkV u) {s t : List UInt8} (e : wrL v ++ 44 :: s = wrL u ++ 44 :: t) : v = u ∧ s = t := by
  rcases wrL_cases hv with ⟨a, ea⟩ | ⟨na, x, r, ex, hx⟩
  · rcases wrL_cases hu with ⟨b, eb⟩ | ⟨nb, y, q, ey, hy⟩
    · have e' := e
      rw [ea, eb] at e'
      simp only [List.cons_append, List.append_assoc, List.nil_append, List.cons.injEq, true_and] at e'
      obtain ⟨h1, h2⟩ := upto_quote a b s t e'
      exact ⟨wrL_inj hv hu (by rw [ea, eb, h1]), h2⟩
    · rw [ea, ey] at e
      simp only [List.cons_append, List.cons.injEq] at e
      exact absurd e.1.symm hy
  · rcases wrL_cases hu with ⟨b, eb⟩ | ⟨nb, y, q, ey, hy⟩
    · rw [ex, eb] at e
      simp only [List.cons_append, List.cons.injEq] at e
      exact absurd e.1 hx
    · obtain ⟨h1, h2⟩ := upto_comma _ _ s t na nb e
      exact ⟨wrL_inj hv hu h1, h2⟩
theorem name_inj : ∀ (a b : List V), (∀ v ∈ a, OkV v) → (∀ v ∈ b, OkV v) → nameL a = nameL b → a = b
  | [], [], _, _, _ => rfl
  | [], _ :: _, _, _, e => by
    have := congrArg List.length e
    simp [nameL] at this
  | _ :: _, [], _, _, e => by
    have := congrArg List.length e
    simp [nameL] at this
  | v :: a, u :: b, ha, hb, e => by
    simp only [nameL] at e
    obtain ⟨h1, h2⟩ := wrL_upto (ha v List.mem_cons_self) (hb u List.mem_cons_self) e
    rw [h1, name_inj a b (fun x hx => ha x (List.mem_cons_of_mem _ hx)) (fun x hx => hb x (List.mem_cons_of_mem _ hx)) h2]
end Go.Proofs.YtmhobbdedmjmnaaGreatDoor
end
section
/- A map from strings to numbers that the call has made, as how many there are of each; rows counted by their names. -/
namespace Go.Proofs.YtmhobbdedmjmnaaGreatDoor
open Go.RowKit Go.Sort Go.Maps Go.Proofs.YtmhobbdedmjmnaaGreatDoor.Q Go.Proofs.YtmhobbdedmjmnaaGreatDoorW.PrintWords Go.Proofs.YtmhobbdedmjmnaaGreatDoorW.PrintLast Go.Proofs.YtmhobbdedmjmnaaGreatDoorW.PrintMore
/-- block b is a map of at most n names that reads as left -/
def MapIs (w : World) (b n : Nat) (left : List UInt8 → Int) : Prop :=
  ∃ D : DataW Unit, w.ownsMap Tryz.prog 9 (plainElem Tryz.prog 3) b n D ∧ IsMap D ∧ ∀ s : List UInt8, D.atKey (.string s) (.lit (.int .i64 0)) = .lit (.int .i64 (left s))
/-- one name, told anew -/
def putN (left : List UInt8 → Int) (s : List UInt8) (c : Int) : List UInt8 → Int := fun t => if t = s then c else left t
theorem mapIs_made (w : World) : MapIs (w.alloc (.map #[] 0)) w.heap.size 0 (fun _ => 0) := ⟨.map [], World.ownsMap_made w _ _ _, isMap_empty, fun _ => rfl⟩
theorem mapIs_same {w w1 : World} {b n : Nat} {left : List UInt8 → Int} (h : MapIs w b n left) (e : w1.heap[b]? = w.heap[b]?) : MapIs w1 b n left := by
  obtain ⟨D, ⟨es, clock, g1, g2, g3, g4⟩, h2, h3⟩ := h
  exact ⟨D, ⟨es, clock, e.trans g1, g2, g3, g4⟩, h2, h3⟩
theorem wfI {c : Int} (h0 : -9223372036854775808 ≤ c) (h1 : c ≤ 9223372036854775807) : (Lit.int .i64 c).wf = true := by
  simp [Lit.wf, IntKind.min, IntKind.max, IntKind.signed, IntKind.bits]; omega
theorem mapIs_below {w w1 : World} {b n : Nat} {left : List UInt8 → Int} (h : MapIs w b n left) (hb : Below w.heap.size w w1) : MapIs w1 b n left := by
  obtain ⟨D, h1, h2, h3⟩ := h
  exact ⟨D, h1.kept (row := none) ⟨hb.os, hb.tape, hb.output, hb.size, fun k hk _ => hb.block k hk⟩ (by simp), h2, h3⟩
theorem mapIs_lt {w : World} {b n : Nat} {left : List UInt8 → Int} (h : MapIs w b n left) : b < w.heap.size := by
  obtain ⟨D, h1, _⟩ := h
  exact h1.lt
theorem mapIs_mono {w : World} {b n m : Nat} {left : List UInt8 → Int} (h : MapIs w b n left) (hn : n ≤ m) : MapIs w b m left := by
  obtain ⟨D, h1, h2, h3⟩ := h
  exact ⟨D, h1.mono hn, h2, h3⟩
theorem mapIs_congr {w : World} {b n : Nat} {left left' : List UInt8 → Int} (h : MapIs w b n left) (e : ∀ s, left s = left' s) : MapIs w b n left' := by
  obtain ⟨D, h1, h2, h3⟩ := h
  exact ⟨D, h1, h2, fun s => by rw [h3, e]⟩
section
variable {w : World} {ops : Array Oper} {rest : List Oper} {o : Oper} {a : Act} {Q : Exit → Act → World → Prop}
theorem mapIs_lookup (hg : o.guard = none) (m x : Operand) (hop : o.op = Op.lookup 116 m x false) (b n : Nat) (left : List UInt8 → Int) (hm : a.eval m = .map (some b)) (h : MapIs w b n left) (s : ByteArray) (hs : s.size ≤ maxLen) (hx : a.eval x = .string s) (c : Int) (hc0 : left s.data.toList = c)
    (hK : wpList Tryz.prog ops Q rest (a.put o.dst (.int .i64 c)) w) : wpList Tryz.prog ops Q (o :: rest) a w := by
  obtain ⟨D, h1, h2, h3⟩ := h
  refine wpList_lookup_own_int w hg m x 116 hop 9 3 .i64 (string_keyed Tryz.underlying9) Tryz.underlying116 Tryz.underlying3 (Tryz.zeroValue3 w) b n D hm h1 (.string s) (.string s.data.toList) hx (Go.WideMaps.keyOf_string_mk Tryz.underlying9 hs) fun c' hc _ => ?_
  rw [h3, hc0] at hc
  injection hc with hc
  injection hc with _ hc
  rw [← hc]
  exact hK
theorem mapIs_update (hg : o.guard = none) (m x v : Operand) (hop : o.op = Op.mapUpdate 116 m x v) (b n : Nat) (left : List UInt8 → Int) (hm : a.eval m = .map (some b)) (h : MapIs w b n left) (hn : n < maxLen) (s : ByteArray) (hs : s.size ≤ maxLen) (hx : a.eval x = .string s)
    (c : Int) (hv : a.eval v = .int .i64 c) (hc : (Lit.int .i64 c).wf = true)
    (hK : ∀ w', MapIs w' b (n + 1) (putN left s.data.toList c) → w.grownBy w' (some b) → wpList Tryz.prog ops Q rest (a.put o.dst undef) w') : wpList Tryz.prog ops Q (o :: rest) a w := by
  obtain ⟨D, h1, h2, h3⟩ := h
  refine wpList_mapUpdate_own w hg m x v 116 hop 9 3 (string_keyed Tryz.underlying9) Tryz.underlying116 (plainElem Tryz.prog 3) b n D hm h1 hn (.string s) (.int .i64 c) (.string s.data.toList) hx hv (Go.WideMaps.keyOf_string_mk Tryz.underlying9 hs) (.lit (.int .i64 c)) [] (plainElem_int Tryz.underlying3 hc) fun w' g1 g2 => ?_
  have hk : WideAt.IsKeyLit (.string s.data.toList) := by first | exact trivial | rfl | decide | simp [WideAt.IsKeyLit]
  refine hK w' ⟨_, g1, h2.put _ _, fun t => ?_⟩ g2
  unfold putN
  by_cases e : t = s.data.toList
  · rw [if_pos e, e, atKey_put_same h2 hk]
  · rw [if_neg e, atKey_put_other (fun q => e (by injection q)), h3]
end
/-- how often a name is among rows -/
def cntN (l : List (List V)) (s : List UInt8) : Int := ((l.filter fun r => decide (nameL r = s)).length : Int)
theorem cntN_snoc (l : List (List V)) (r : List V) (s : List UInt8) : cntN (l ++ [r]) s = putN (cntN l) (nameL r) (cntN l (nameL r) + 1) s := by
  unfold cntN putN
  rw [List.filter_append, List.length_append]
  by_cases e : s = nameL r
  · subst e
    rw [if_pos rfl, List.filter_cons_of_pos (by simp)]
    simp
  · rw [if_neg e, List.filter_cons_of_neg (by simp; exact fun q => e q.symm)]
    simp
theorem cntN_le (l : List (List V)) (s : List UInt8) : 0 ≤ cntN l s ∧ cntN l s ≤ l.length := by
  unfold cntN
  have := List.length_filter_le (fun r => decide (nameL r = s)) l
  omega
/-- among right rows a name is counted as often as the row is there -/
theorem cntN_eq {l : List (List V)} {r : List V} (hl : ∀ x ∈ l, ∀ v ∈ x, OkV v) (hr : ∀ v ∈ r, OkV v) : cntN l (nameL r) = (cnt l r : Int) := by
  have e0 : cnt l r = (l.filter fun x => decide (x = r)).length := by
    rw [← List.countP_eq_length_filter]; rfl
  rw [e0]
  unfold cntN
  congr 2
  refine List.filter_congr fun x hx => ?_
  by_cases e : x = r
  · subst e; simp
  · have : nameL x ≠ nameL r := fun q => e (name_inj x r (hl x hx) hr q)
    simp [e, this]
/-- rows that are right, not too many nor too long -/
def okRR (l : List (List V)) : Bool := decide (l.length ≤ 1000000) && l.all okRow
theorem okRR_spec {l : List (List V)} (h : okRR l = true) : l.length ≤ 1000000 ∧ ∀ r ∈ l, okRow r = true := by
  unfold okRR at h
  rw [Bool.and_eq_true, List.all_eq_true] at h
  exact ⟨of_decide_eq_true h.1, h.2⟩
theorem okRR_mk {l : List (List V)} (h1 : l.length ≤ 1000000) (h2 : ∀ r ∈ l, okRow r = true) : okRR l = true := by
  unfold okRR
  rw [Bool.and_eq_true, List.all_eq_true]
  exact ⟨decide_eq_true h1, h2⟩
theorem okRR_okR {l : List (List V)} (h : okRR l = true) : okR l = true := okR_mk (okRR_spec h).1 fun r hr => (okRow_spec ((okRR_spec h).2 r hr)).1
theorem okRR_vals {l : List (List V)} (h : okRR l = true) : ∀ x ∈ l, ∀ v ∈ x, OkV v := fun x hx => (okRow_spec ((okRR_spec h).2 x hx)).2
/-- the rows of which some are left, told by their names; the ones of which none are left -/
def inN : (List UInt8 → Int) → List (List V) → List (List V)
  | _, [] => []
  | left, r :: l => if 0 < left (nameL r) then r :: inN (putN left (nameL r) (left (nameL r) - 1)) l else inN left l
def outN (all : Bool) : (List UInt8 → Int) → List (List V) → List (List V)
  | _, [] => []
  | left, r :: l => if left (nameL r) = 0 then r :: outN all left l else if all = true then outN all (putN left (nameL r) (left (nameL r) - 1)) l else outN all left l
theorem inN_eq : ∀ (l : List (List V)) (left : List UInt8 → Int) (cl : List V → Nat), (∀ x ∈ l, ∀ v ∈ x, OkV v) → (∀ x, (∀ v ∈ x, OkV v) → left (nameL x) = cl x) → inN left l = takeIn cl l
  | [], _, _, _, _ => rfl
  | r :: l, left, cl, h, hc => by
    have hr := h r List.mem_cons_self
    have e := hc r hr
    simp only [inN, takeIn]
    by_cases q : 0 < cl r
    · rw [if_pos (by omega), if_pos q, inN_eq l _ (less1 cl r) (fun x hx => h x (List.mem_cons_of_mem _ hx)) fun x hx => ?_]
      unfold putN less1
      by_cases z : x = r
      · subst z; rw [if_pos rfl, if_pos rfl]; omega
      · rw [if_neg fun w => z (name_inj x r hx hr w), if_neg z, hc x hx]
    · rw [if_neg (by omega), if_neg q]
      exact inN_eq l left cl (fun x hx => h x (List.mem_cons_of_mem _ hx)) hc
theorem outN_eq (all : Bool) : ∀ (l : List (List V)) (left : List UInt8 → Int) (cl : List V → Nat), (∀ x ∈ l, ∀ v ∈ x, OkV v) → (∀ x, (∀ v ∈ x, OkV v) → left (nameL x) = cl x) → outN all left l = takeOut all cl l
  | [], _, _, _, _ => rfl
  | r :: l, left, cl, h, hc => by
    have hr := h r List.mem_cons_self
    have e := hc r hr
    have hl := fun x hx => h x (List.mem_cons_of_mem _ hx)
    simp only [outN, takeOut]
    by_cases q : cl r = 0
    · rw [if_pos (by omega), if_pos q, outN_eq all l left cl hl hc]
    · rw [if_neg (by omega), if_neg q]
      cases all with
      | true =>
        rw [if_pos rfl, if_pos rfl, outN_eq true l _ (less1 cl r) hl fun x hx => ?_]
        unfold putN less1
        by_cases z : x = r
        · subst z; rw [if_pos rfl, if_pos rfl]; omega
        · rw [if_neg fun w => z (name_inj x r hx hr w), if_neg z, hc x hx]
      | false =>
        rw [if_neg (by decide), if_neg (by decide)]
        exact outN_eq false l left cl hl hc
theorem inN_len : ∀ (l : List (List V)) (left : List UInt8 → Int), (inN left l).length ≤ l.length
  | [], _ => Nat.le_refl _
  | r :: l, left => by
    simp only [inN]
    by_cases q : 0 < left (nameL r)
    · rw [if_pos q]; have := inN_len l (putN left (nameL r) (left (nameL r) - 1)); simp only [List.length_cons]; omega
    · rw [if_neg q]; have := inN_len l left; simp only [List.length_cons]; omega
theorem inN_mem : ∀ (l : List (List V)) (left : List UInt8 → Int) (x : List V), x ∈ inN left l → x ∈ l
  | [], _, _, h => h
  | r :: l, left, x, h => by
    simp only [inN] at h
    by_cases q : 0 < left (nameL r)
    · rw [if_pos q] at h
      rcases List.mem_cons.1 h with e | e
      · rw [e]; exact List.mem_cons_self
      · exact List.mem_cons_of_mem _ (inN_mem l _ x e)
    · rw [if_neg q] at h
      exact List.mem_cons_of_mem _ (inN_mem l _ x h)
theorem outN_mem (all : Bool) : ∀ (l : List (List V)) (left : List UInt8 → Int) (x : List V), x ∈ outN all left l → x ∈ l
  | [], _, _, h => h
  | r :: l, left, x, h => by
    simp only [outN] at h
    by_cases q : left (nameL r) = 0
    · rw [if_pos q] at h
      rcases List.mem_cons.1 h with e | e
      · rw [e]; exact List.mem_cons_self
      · exact List.mem_cons_of_mem _ (outN_mem all l _ x e)
    · rw [if_neg q] at h
      by_cases z : all = true
      · rw [if_pos z] at h; exact List.mem_cons_of_mem _ (outN_mem all l _ x h)
      · rw [if_neg z] at h; exact List.mem_cons_of_mem _ (outN_mem all l _ x h)
theorem outN_len (all : Bool) : ∀ (l : List (List V)) (left : List UInt8 → Int), (outN all left l).length ≤ l.length
  | [], _ => Nat.le_refl _
  | r :: l, left => by
    simp only [outN]
    by_cases q : left (nameL r) = 0
    · rw [if_pos q]; have := outN_len all l left; simp only [List.length_cons]; omega
    · rw [if_neg q]
      by_cases z : all = true
      · rw [if_pos z]; have := outN_len all l (putN left (nameL r) (left (nameL r) - 1)); simp only [List.length_cons]; omega
      · rw [if_neg z]; have := outN_len all l left; simp only [List.length_cons]; omega
/-- names counted: in range -/
def InR (left : List UInt8 → Int) : Prop := ∀ s, 0 ≤ left s ∧ left s ≤ 1000000
theorem InR.put {left : List UInt8 → Int} (h : InR left) {s : List UInt8} {c : Int} (h0 : 0 ≤ c) (h1 : c ≤ 1000000) : InR (putN left s c) := fun t => by
  unfold putN
  by_cases e : t = s
  · rw [if_pos e]; exact ⟨h0, h1⟩
  · rw [if_neg e]; exact h t
end Go.Proofs.YtmhobbdedmjmnaaGreatDoor
end
section
/- The library's contracts of a strings.Builder that is written to, laid at this program's numbers; what a builder holds stays while other things are made. -/
namespace Go.Proofs
open Go.Shelf
def Tryz.builder167_ren : Go.Shelf.Ren := ⟨fun | 167 => 79 | 240 => 116 | 276 => 147 | n => n, fun | 0 => 0 | 3 => 3 | 4 => 4 | 5 => 5 | 9 => 9 | 20 => 20 | 37 => 100 | 70 => 99 | 72 => 102 | 75 => 104 | 76 => 105 | 80 => 110 | 164 => 162 | n => n, fun | n => n⟩
theorem Tryz.builder167 : Go.Proofs.Lays.n167 Tryz.prog Tryz.builder167_ren := {
  mixed := by kernel_rfl
  f167 := Tryz.func79.trans (congrArg some (by kernel_rfl))
  f240 := Tryz.func116.trans (congrArg some (by kernel_rfl))
  f276 := Tryz.func147.trans (congrArg some (by kernel_rfl))
  t0 := Tryz.underlying0
  a0 := Tryz.isAgg0
  z0 := Tryz.sizeOf0
  v0 := Tryz.zeroValue0
  t4 := Tryz.underlying4
  a4 := Tryz.isAgg4
  z4 := Tryz.sizeOf4
  v4 := Tryz.zeroValue4
  t5 := Tryz.underlying5
  a5 := Tryz.isAgg5
  z5 := Tryz.sizeOf5
  v5 := Tryz.zeroValue5
  t9 := Tryz.underlying9
  a9 := Tryz.isAgg9
  z9 := Tryz.sizeOf9
  v9 := Tryz.zeroValue9
  t20 := Tryz.underlying20
  a20 := Tryz.isAgg20
  z20 := Tryz.sizeOf20
  v20 := Tryz.zeroValue20
  t37 := Tryz.underlying100
  a37 := Tryz.isAgg100
  z37 := Tryz.sizeOf100
  v37 := Tryz.zeroValue100
  t70 := Tryz.underlying99
  a70 := Tryz.isAgg99
  z70 := Tryz.sizeOf99
  v70 := Tryz.zeroValue99
  t72 := Tryz.underlying102
  a72 := Tryz.isAgg102
  z72 := Tryz.sizeOf102
  v72 := Tryz.zeroValue102
  t75 := Tryz.underlying104
  a75 := Tryz.isAgg104
  z75 := Tryz.sizeOf104
  v75 := Tryz.zeroValue104
  t164 := Tryz.underlying162
  a164 := Tryz.isAgg162
  z164 := Tryz.sizeOf162
  v164 := Tryz.zeroValue162 }
theorem Tryz.builderX167 : Builder.Extra Tryz.prog Tryz.builder167_ren := {
  sizeBuilder := by kernel_rfl
  liesBuilder := by kernel_rfl
  t5 := Tryz.underlying5
  a5 := Tryz.isAgg5
  z5 := Tryz.sizeOf5
  v5 := Tryz.zeroValue5
  infoByte := by kernel_rfl
  cellsByte := by kernel_rfl
  sizeByte := by kernel_rfl
  neB5 := by decide }
def Tryz.builder166_ren : Go.Shelf.Ren := ⟨fun | 166 => 77 | 240 => 116 | 276 => 147 | n => n, fun | 0 => 0 | 3 => 3 | 4 => 4 | 5 => 5 | 9 => 9 | 20 => 20 | 37 => 100 | 70 => 99 | 72 => 102 | 75 => 104 | 76 => 105 | 80 => 110 | 164 => 162 | n => n, fun | n => n⟩
theorem Tryz.builder166 : Go.Proofs.Lays.n166 Tryz.prog Tryz.builder166_ren := {
  mixed := by kernel_rfl
  f166 := Tryz.func77.trans (congrArg some (by kernel_rfl))
  f240 := Tryz.func116.trans (congrArg some (by kernel_rfl))
  f276 := Tryz.func147.trans (congrArg some (by kernel_rfl))
  t0 := Tryz.underlying0
  a0 := Tryz.isAgg0
  z0 := Tryz.sizeOf0
  v0 := Tryz.zeroValue0
  t3 := Tryz.underlying3
  a3 := Tryz.isAgg3
  z3 := Tryz.sizeOf3
  v3 := Tryz.zeroValue3
  t4 := Tryz.underlying4
  a4 := Tryz.isAgg4
  z4 := Tryz.sizeOf4
  v4 := Tryz.zeroValue4
  t9 := Tryz.underlying9
  a9 := Tryz.isAgg9
  z9 := Tryz.sizeOf9
  v9 := Tryz.zeroValue9
  t20 := Tryz.underlying20
  a20 := Tryz.isAgg20
  z20 := Tryz.sizeOf20
  v20 := Tryz.zeroValue20
  t37 := Tryz.underlying100
  a37 := Tryz.isAgg100
  z37 := Tryz.sizeOf100
  v37 := Tryz.zeroValue100
  t70 := Tryz.underlying99
  a70 := Tryz.isAgg99
  z70 := Tryz.sizeOf99
  v70 := Tryz.zeroValue99
  t72 := Tryz.underlying102
  a72 := Tryz.isAgg102
  z72 := Tryz.sizeOf102
  v72 := Tryz.zeroValue102
  t75 := Tryz.underlying104
  a75 := Tryz.isAgg104
  z75 := Tryz.sizeOf104
  v75 := Tryz.zeroValue104
  t164 := Tryz.underlying162
  a164 := Tryz.isAgg162
  z164 := Tryz.sizeOf162
  v164 := Tryz.zeroValue162 }
theorem Tryz.builderX166 : Builder.Extra Tryz.prog Tryz.builder166_ren := {
  sizeBuilder := by kernel_rfl
  liesBuilder := by kernel_rfl
  t5 := Tryz.underlying5
  a5 := Tryz.isAgg5
  z5 := Tryz.sizeOf5
  v5 := Tryz.zeroValue5
  infoByte := by kernel_rfl
  cellsByte := by kernel_rfl
  sizeByte := by kernel_rfl
  neB5 := by decide }
end Go.Proofs
namespace Go.Proofs.YtmhobbdedmjmnaaGreatDoor
open Go.RowKit Go.Proofs.YtmhobbdedmjmnaaGreatDoorW.PrintWords
theorem builder_below {T e : TypeId} {B b : Nat} {bs : List Value} {w w1 : World} (h : Lib.IsBuilder T e B b bs w) (hb : Below w.heap.size w w1) : Lib.IsBuilder T e B b bs w1 := by
  have go : ∀ p, Lib.BuilderAt T e B b p bs w → Lib.BuilderAt T e B b p bs w1 := fun p h => by
    obtain ⟨h1, v, h2, h3, h4⟩ := h
    exact ⟨h1, v, blk_below h2 hb, pw_own_below h3 hb, h4⟩
  rcases h with h | h
  · exact .inl (go _ h)
  · exact .inr (go _ h)
theorem builder_write (B b : Nat) (bs : List Value) (s : ByteArray) (w : World) (h : Lib.IsBuilder 102 5 B b bs w) (hlen : bs.length + s.size ≤ 140737488355328) (hBw : B ≤ w.heap.size) :
    Calls Tryz.prog 77 #[.pointer (some ⟨b, 0, none⟩), .string s] w fun e w' => e = .returned (.tuple #[.int .i64 s.size, .nilIface]) ∧ Lib.IsBuilder 102 5 B b (bs ++ Lib.strCells s) w' ∧ Below B w w' :=
  (Any.Builder_WriteString Tryz.builder166 Tryz.builderX166 B b bs s w h hlen hBw).mono fun _ _ ⟨he, h1, h2⟩ => ⟨he, .inr h1, h2⟩
theorem builder_byte (B b : Nat) (bs : List Value) (c : Int) (w : World) (h : Lib.IsBuilder 102 5 B b bs w) (hlen : bs.length + 1 ≤ 140737488355328) (hBw : B ≤ w.heap.size) :
    Calls Tryz.prog 79 #[.pointer (some ⟨b, 0, none⟩), .int .u8 c] w fun e w' => e = .returned .nilIface ∧ Lib.IsBuilder 102 5 B b (bs ++ [.int .u8 c]) w' ∧ Below B w w' :=
  (Any.Builder_WriteByte Tryz.builder167 Tryz.builderX167 B b bs c w h hlen hBw).mono fun _ _ ⟨he, h1, h2⟩ => ⟨he, .inr h1, h2⟩
end Go.Proofs.YtmhobbdedmjmnaaGreatDoor
end
section
/- Each function reached is shown to return what the plain function beside it computes, wherever that is defined (written by a program of ours for this seat). -/
namespace Go.Proofs.YtmhobbdedmjmnaaGreatDoor.Q
open Go.RowKit Go.Proofs.YtmhobbdedmjmnaaGreatDoorW.PrintWords Go.Proofs.YtmhobbdedmjmnaaGreatDoorW.PrintLast Go.Proofs.YtmhobbdedmjmnaaGreatDoorW.PrintMore
attribute [local go_sem] max2_int min2_int max_two min_two max_three min_three max_four min_four   -- for this text's walks alone
set_option linter.unusedVariables false
set_option linter.unusedSimpArgs false
def value_Is.f (a0_0 : Int) (a0_1 : Int) (a0_2 : ByteArray) : Option (Bool) := if a0_0 = 0 then (if a0_1 = 0 then (some (a0_2.toList == ([] : List UInt8))) else (some false)) else (if a0_0 = 1 then (some (a0_2.toList == ([] : List UInt8))) else (if a0_0 = 2 then (if a0_2.toList = ([] : List UInt8) then (if a0_1 = 0 then (some true) else (some (a0_1 == 1))) else (some false)) else (if a0_0 = 3 then (if a0_1 = 0 then (if (a0_2.size : Int) ≤ 200 then ((value_printable_s.f a0_2).bind fun t114 => (some t114)) else (some false)) else (some false)) else (some false))))
set_option maxHeartbeats 8000000 in
set_option maxRecDepth 100000 in
theorem value_Is.calls (a0_0 : Int) (a0_1 : Int) (a0_2 : ByteArray) (r : Bool) (w : World) (h : value_Is.f a0_0 a0_1 a0_2 = some r) :
    Calls Tryz.prog 89 #[.agg #[.int .i64 a0_0, .int .i64 a0_1, .string a0_2]] w fun e w' => e = .returned (.bool r) ∧ Below w.heap.size w w' := by
  have hu61 := Tryz.underlying61
  have HB := Aside0.mk (Below.refl w.heap.size w)
  have H : (if a0_0 = 0 then (if a0_1 = 0 then (some (a0_2.toList == ([] : List UInt8))) else (some false)) else (if a0_0 = 1 then (some (a0_2.toList == ([] : List UInt8))) else (if a0_0 = 2 then (if a0_2.toList = ([] : List UInt8) then (if a0_1 = 0 then (some true) else (some (a0_1 == 1))) else (some false)) else (if a0_0 = 3 then (if a0_1 = 0 then (if (a0_2.size : Int) ≤ 200 then ((value_printable_s.f a0_2).bind fun t114 => (some t114)) else (some false)) else (some false)) else (some false))))) = some r := h
  clear h
  by_cases c2 : a0_0 = 0
  · rw [if_pos c2] at H
    have c2b0 : (a0_0 == 0) = true := beq_iff_eq.mpr c2
    have c2b1 : (a0_0 != 0) = false := bne_eq_false_iff_eq.mpr c2
    clear c2
    by_cases c3 : a0_1 = 0
    · rw [if_pos c3] at H
      have c3b0 : (a0_1 == 0) = true := beq_iff_eq.mpr c3
      have c3b1 : (a0_1 != 0) = false := bne_eq_false_iff_eq.mpr c3
      clear c3
      obtain rfl := Option.some.inj H
      go_enter Tryz.func89, Tryz.ntmps89
      go_wp2_with (first | ((with_reducible refine gate_dst (N := 1) rfl ?_); (try (refine gate_guard (by rfl) ?_; dsimp only)); refine box_event ?hg (N := 1) ?hd (cs := #[.int .i64 a0_0, .int .i64 a0_1, .string a0_2]) (t := 61) ?hr ?_; (case hd => rfl); (case hg => rfl); (case hr => first | (go_simp; done) | (go_simp; rfl)); intro gb113 hg w4 hbox hb; have n0_ := Aside0.mk (below_step (by repeat (first | (with_reducible first | exact HB.out | apply yA | apply yN | apply yD) | exact HB.out)) hb); have n1_ := Aside0.mk (hbox); have n2_ := Aside0.mk ((by rw [hg]; exact (below_size (by repeat (first | (with_reducible first | exact HB.out | apply yA | apply yN | apply yD) | exact HB.out))) : w.heap.size ≤ gb113)); have n3_ := Aside0.mk ((by rw [hg]; exact (below_size (by repeat (first | (with_reducible first | exact HB.out | apply yA | apply yN | apply yD) | exact HB.out))) : w.heap.size ≤ gb113)); clear HB; have HB := n0_; have BK113 := n1_; have GW113 := n2_; have GE113 := n3_; clear n0_ n1_ n2_ n3_; clear hb hbox hg; have hcz5_0 : w4.cell? ⟨gb113, 0, none⟩ = some (.int .i64 a0_0) := (blk_cell BK113.out 0).trans rfl; have hcz5_1 : w4.cell? ⟨gb113, 1, none⟩ = some (.int .i64 a0_1) := (blk_cell BK113.out 1).trans rfl; have hcz5_2 : w4.cell? ⟨gb113, 2, none⟩ = some (.string a0_2) := (blk_cell BK113.out 2).trans rfl; have hfz5_0 := blk_frozen BK113.out 0; have hfz5_1 := blk_frozen BK113.out 1; have hfz5_2 := blk_frozen BK113.out 2))
      go_ret
      exact ⟨by first | rfl | (simp [errW_none, errW_some] <;> rfl) | (simp [*, errW_none, errW_some] <;> rfl), by repeat (first | (with_reducible first | exact HB.out | apply yA | apply yN | apply yD | refine below_set ?_ GE113.out) | exact HB.out)⟩
    · rw [if_neg c3] at H
      have c3b0 : (a0_1 == 0) = false := beq_eq_false_iff_ne.mpr c3
      have c3b1 : (a0_1 != 0) = true := bne_iff_ne.mpr c3
      obtain rfl := Option.some.inj H
      go_enter Tryz.func89, Tryz.ntmps89
      go_wp2_with (first | ((with_reducible refine gate_dst (N := 1) rfl ?_); (try (refine gate_guard (by rfl) ?_; dsimp only)); refine box_event ?hg (N := 1) ?hd (cs := #[.int .i64 a0_0, .int .i64 a0_1, .string a0_2]) (t := 61) ?hr ?_; (case hd => rfl); (case hg => rfl); (case hr => first | (go_simp; done) | (go_simp; rfl)); intro gb113 hg w6 hbox hb; have n0_ := Aside0.mk (below_step (by repeat (first | (with_reducible first | exact HB.out | apply yA | apply yN | apply yD) | exact HB.out)) hb); have n1_ := Aside0.mk (hbox); have n2_ := Aside0.mk ((by rw [hg]; exact (below_size (by repeat (first | (with_reducible first | exact HB.out | apply yA | apply yN | apply yD) | exact HB.out))) : w.heap.size ≤ gb113)); have n3_ := Aside0.mk ((by rw [hg]; exact (below_size (by repeat (first | (with_reducible first | exact HB.out | apply yA | apply yN | apply yD) | exact HB.out))) : w.heap.size ≤ gb113)); clear HB; have HB := n0_; have BK113 := n1_; have GW113 := n2_; have GE113 := n3_; clear n0_ n1_ n2_ n3_; clear hb hbox hg; have hcz7_0 : w6.cell? ⟨gb113, 0, none⟩ = some (.int .i64 a0_0) := (blk_cell BK113.out 0).trans rfl; have hcz7_1 : w6.cell? ⟨gb113, 1, none⟩ = some (.int .i64 a0_1) := (blk_cell BK113.out 1).trans rfl; have hcz7_2 : w6.cell? ⟨gb113, 2, none⟩ = some (.string a0_2) := (blk_cell BK113.out 2).trans rfl; have hfz7_0 := blk_frozen BK113.out 0; have hfz7_1 := blk_frozen BK113.out 1; have hfz7_2 := blk_frozen BK113.out 2))
      go_ret
      exact ⟨by first | rfl | (simp [errW_none, errW_some] <;> rfl) | (simp [*, errW_none, errW_some] <;> rfl), by repeat (first | (with_reducible first | exact HB.out | apply yA | apply yN | apply yD | refine below_set ?_ GE113.out) | exact HB.out)⟩
  · rw [if_neg c2] at H
    have c2b0 : (a0_0 == 0) = false := beq_eq_false_iff_ne.mpr c2
    have c2b1 : (a0_0 != 0) = true := bne_iff_ne.mpr c2
    by_cases c8 : a0_0 = 1
    · rw [if_pos c8] at H
      have c8b0 : (a0_0 == 1) = true := beq_iff_eq.mpr c8
      have c8b1 : (a0_0 != 1) = false := bne_eq_false_iff_eq.mpr c8
      clear c8
      obtain rfl := Option.some.inj H
      go_enter Tryz.func89, Tryz.ntmps89
      go_wp2_with (first | ((with_reducible refine gate_dst (N := 1) rfl ?_); (try (refine gate_guard (by rfl) ?_; dsimp only)); refine box_event ?hg (N := 1) ?hd (cs := #[.int .i64 a0_0, .int .i64 a0_1, .string a0_2]) (t := 61) ?hr ?_; (case hd => rfl); (case hg => rfl); (case hr => first | (go_simp; done) | (go_simp; rfl)); intro gb113 hg w9 hbox hb; have n0_ := Aside0.mk (below_step (by repeat (first | (with_reducible first | exact HB.out | apply yA | apply yN | apply yD) | exact HB.out)) hb); have n1_ := Aside0.mk (hbox); have n2_ := Aside0.mk ((by rw [hg]; exact (below_size (by repeat (first | (with_reducible first | exact HB.out | apply yA | apply yN | apply yD) | exact HB.out))) : w.heap.size ≤ gb113)); have n3_ := Aside0.mk ((by rw [hg]; exact (below_size (by repeat (first | (with_reducible first | exact HB.out | apply yA | apply yN | apply yD) | exact HB.out))) : w.heap.size ≤ gb113)); clear HB; have HB := n0_; have BK113 := n1_; have GW113 := n2_; have GE113 := n3_; clear n0_ n1_ n2_ n3_; clear hb hbox hg; have hcz10_0 : w9.cell? ⟨gb113, 0, none⟩ = some (.int .i64 a0_0) := (blk_cell BK113.out 0).trans rfl; have hcz10_1 : w9.cell? ⟨gb113, 1, none⟩ = some (.int .i64 a0_1) := (blk_cell BK113.out 1).trans rfl; have hcz10_2 : w9.cell? ⟨gb113, 2, none⟩ = some (.string a0_2) := (blk_cell BK113.out 2).trans rfl; have hfz10_0 := blk_frozen BK113.out 0; have hfz10_1 := blk_frozen BK113.out 1; have hfz10_2 := blk_frozen BK113.out 2))
      go_ret
      exact ⟨by first | rfl | (simp [errW_none, errW_some] <;> rfl) | (simp [*, errW_none, errW_some] <;> rfl), by repeat (first | (with_reducible first | exact HB.out | apply yA | apply yN | apply yD | refine below_set ?_ GE113.out) | exact HB.out)⟩
    · rw [if_neg c8] at H
      have c8b0 : (a0_0 == 1) = false := beq_eq_false_iff_ne.mpr c8
      have c8b1 : (a0_0 != 1) = true := bne_iff_ne.mpr c8
      by_cases c11 : a0_0 = 2
      · rw [if_pos c11] at H
        have c11b0 : (a0_0 == 2) = true := beq_iff_eq.mpr c11
        have c11b1 : (a0_0 != 2) = false := bne_eq_false_iff_eq.mpr c11
        clear c11
        by_cases c12 : a0_2.toList = ([] : List UInt8)
        · rw [if_pos c12] at H
          have c12b0 : (a0_2.toList == ([] : List UInt8)) = true := beq_iff_eq.mpr c12
          have c12b1 : (a0_2.toList != ([] : List UInt8)) = false := bne_eq_false_iff_eq.mpr c12
          clear c12
          by_cases c13 : a0_1 = 0
          · rw [if_pos c13] at H
            have c13b0 : (a0_1 == 0) = true := beq_iff_eq.mpr c13
            have c13b1 : (a0_1 != 0) = false := bne_eq_false_iff_eq.mpr c13
            clear c13
            obtain rfl := Option.some.inj H
            go_enter Tryz.func89, Tryz.ntmps89
            go_wp2_with (first | ((with_reducible refine gate_dst (N := 1) rfl ?_); (try (refine gate_guard (by rfl) ?_; dsimp only)); refine box_event ?hg (N := 1) ?hd (cs := #[.int .i64 a0_0, .int .i64 a0_1, .string a0_2]) (t := 61) ?hr ?_; (case hd => rfl); (case hg => rfl); (case hr => first | (go_simp; done) | (go_simp; rfl)); intro gb113 hg w14 hbox hb; have n0_ := Aside0.mk (below_step (by repeat (first | (with_reducible first | exact HB.out | apply yA | apply yN | apply yD) | exact HB.out)) hb); have n1_ := Aside0.mk (hbox); have n2_ := Aside0.mk ((by rw [hg]; exact (below_size (by repeat (first | (with_reducible first | exact HB.out | apply yA | apply yN | apply yD) | exact HB.out))) : w.heap.size ≤ gb113)); have n3_ := Aside0.mk ((by rw [hg]; exact (below_size (by repeat (first | (with_reducible first | exact HB.out | apply yA | apply yN | apply yD) | exact HB.out))) : w.heap.size ≤ gb113)); clear HB; have HB := n0_; have BK113 := n1_; have GW113 := n2_; have GE113 := n3_; clear n0_ n1_ n2_ n3_; clear hb hbox hg; have hcz15_0 : w14.cell? ⟨gb113, 0, none⟩ = some (.int .i64 a0_0) := (blk_cell BK113.out 0).trans rfl; have hcz15_1 : w14.cell? ⟨gb113, 1, none⟩ = some (.int .i64 a0_1) := (blk_cell BK113.out 1).trans rfl; have hcz15_2 : w14.cell? ⟨gb113, 2, none⟩ = some (.string a0_2) := (blk_cell BK113.out 2).trans rfl; have hfz15_0 := blk_frozen BK113.out 0; have hfz15_1 := blk_frozen BK113.out 1; have hfz15_2 := blk_frozen BK113.out 2))
            go_ret
            exact ⟨by first | rfl | (simp [errW_none, errW_some] <;> rfl) | (simp [*, errW_none, errW_some] <;> rfl), by repeat (first | (with_reducible first | exact HB.out | apply yA | apply yN | apply yD | refine below_set ?_ GE113.out) | exact HB.out)⟩
          · rw [if_neg c13] at H
            have c13b0 : (a0_1 == 0) = false := beq_eq_false_iff_ne.mpr c13
            have c13b1 : (a0_1 != 0) = true := bne_iff_ne.mpr c13
            obtain rfl := Option.some.inj H
            go_enter Tryz.func89, Tryz.ntmps89
            go_wp2_with (first | ((with_reducible refine gate_dst (N := 1) rfl ?_); (try (refine gate_guard (by rfl) ?_; dsimp only)); refine box_event ?hg (N := 1) ?hd (cs := #[.int .i64 a0_0, .int .i64 a0_1, .string a0_2]) (t := 61) ?hr ?_; (case hd => rfl); (case hg => rfl); (case hr => first | (go_simp; done) | (go_simp; rfl)); intro gb113 hg w16 hbox hb; have n0_ := Aside0.mk (below_step (by repeat (first | (with_reducible first | exact HB.out | apply yA | apply yN | apply yD) | exact HB.out)) hb); have n1_ := Aside0.mk (hbox); have n2_ := Aside0.mk ((by rw [hg]; exact (below_size (by repeat (first | (with_reducible first | exact HB.out | apply yA | apply yN | apply yD) | exact HB.out))) : w.heap.size ≤ gb113)); have n3_ := Aside0.mk ((by rw [hg]; exact (below_size (by repeat (first | (with_reducible first | exact HB.out | apply yA | apply yN | apply yD) | exact HB.out))) : w.heap.size ≤ gb113)); clear HB; have HB := n0_; have BK113 := n1_; have GW113 := n2_; have GE113 := n3_; clear n0_ n1_ n2_ n3_; clear hb hbox hg; have hcz17_0 : w16.cell? ⟨gb113, 0, none⟩ = some (.int .i64 a0_0) := (blk_cell BK113.out 0).trans rfl; have hcz17_1 : w16.cell? ⟨gb113, 1, none⟩ = some (.int .i64 a0_1) := (blk_cell BK113.out 1).trans rfl; have hcz17_2 : w16.cell? ⟨gb113, 2, none⟩ = some (.string a0_2) := (blk_cell BK113.out 2).trans rfl; have hfz17_0 := blk_frozen BK113.out 0; have hfz17_1 := blk_frozen BK113.out 1; have hfz17_2 := blk_frozen BK113.out 2))
            go_ret
            exact ⟨by first | rfl | (simp [errW_none, errW_some] <;> rfl) | (simp [*, errW_none, errW_some] <;> rfl), by repeat (first | (with_reducible first | exact HB.out | apply yA | apply yN | apply yD | refine below_set ?_ GE113.out) | exact HB.out)⟩
        · rw [if_neg c12] at H
          have c12b0 : (a0_2.toList == ([] : List UInt8)) = false := beq_eq_false_iff_ne.mpr c12
          have c12b1 : (a0_2.toList != ([] : List UInt8)) = true := bne_iff_ne.mpr c12
          obtain rfl := Option.some.inj H
          go_enter Tryz.func89, Tryz.ntmps89
          go_wp2_with (first | ((with_reducible refine gate_dst (N := 1) rfl ?_); (try (refine gate_guard (by rfl) ?_; dsimp only)); refine box_event ?hg (N := 1) ?hd (cs := #[.int .i64 a0_0, .int .i64 a0_1, .string a0_2]) (t := 61) ?hr ?_; (case hd => rfl); (case hg => rfl); (case hr => first | (go_simp; done) | (go_simp; rfl)); intro gb113 hg w18 hbox hb; have n0_ := Aside0.mk (below_step (by repeat (first | (with_reducible first | exact HB.out | apply yA | apply yN | apply yD) | exact HB.out)) hb); have n1_ := Aside0.mk (hbox); have n2_ := Aside0.mk ((by rw [hg]; exact (below_size (by repeat (first | (with_reducible first | exact HB.out | apply yA | apply yN | apply yD) | exact HB.out))) : w.heap.size ≤ gb113)); have n3_ := Aside0.mk ((by rw [hg]; exact (below_size (by repeat (first | (with_reducible first | exact HB.out | apply yA | apply yN | apply yD) | exact HB.out))) : w.heap.size ≤ gb113)); clear HB; have HB := n0_; have BK113 := n1_; have GW113 := n2_; have GE113 := n3_; clear n0_ n1_ n2_ n3_; clear hb hbox hg; have hcz19_0 : w18.cell? ⟨gb113, 0, none⟩ = some (.int .i64 a0_0) := (blk_cell BK113.out 0).trans rfl; have hcz19_1 : w18.cell? ⟨gb113, 1, none⟩ = some (.int .i64 a0_1) := (blk_cell BK113.out 1).trans rfl; have hcz19_2 : w18.cell? ⟨gb113, 2, none⟩ = some (.string a0_2) := (blk_cell BK113.out 2).trans rfl; have hfz19_0 := blk_frozen BK113.out 0; have hfz19_1 := blk_frozen BK113.out 1; have hfz19_2 := blk_frozen BK113.out 2))
          go_ret
          exact ⟨by first | rfl | (simp [errW_none, errW_some] <;> rfl) | (simp [*, errW_none, errW_some] <;> rfl), by repeat (first | (with_reducible first | exact HB.out | apply yA | apply yN | apply yD | refine below_set ?_ GE113.out) | exact HB.out)⟩
      · rw [if_neg c11] at H
        have c11b0 : (a0_0 == 2) = false := beq_eq_false_iff_ne.mpr c11
        have c11b1 : (a0_0 != 2) = true := bne_iff_ne.mpr c11
        by_cases c20 : a0_0 = 3
        · rw [if_pos c20] at H
          have c20b0 : (a0_0 == 3) = true := beq_iff_eq.mpr c20
          have c20b1 : (a0_0 != 3) = false := bne_eq_false_iff_eq.mpr c20
          clear c20
          by_cases c21 : a0_1 = 0
          · rw [if_pos c21] at H
            have c21b0 : (a0_1 == 0) = true := beq_iff_eq.mpr c21
            have c21b1 : (a0_1 != 0) = false := bne_eq_false_iff_eq.mpr c21
            clear c21
            by_cases c22 : (a0_2.size : Int) ≤ 200
            · rw [if_pos c22] at H
              have c22b0 : decide ((a0_2.size : Int) ≤ 200) = true := decide_eq_true c22
              have c22b1 : decide (a0_2.size ≤ 200) = true := decide_eq_true (by omega)
              clear c22
              replace H := Option.bind_eq_some_iff.mp H
              obtain ⟨t114, A230, H⟩ := H
              replace H : (some t114) = some r := H
              have A23 := Aside0.mk A230
              clear A230
              obtain rfl := Option.some.inj H
              go_enter Tryz.func89, Tryz.ntmps89
              go_wp2_with (first | ((with_reducible refine gate_dst (N := 1) rfl ?_); (try (refine gate_guard (by rfl) ?_; dsimp only)); refine box_event ?hg (N := 1) ?hd (cs := #[.int .i64 a0_0, .int .i64 a0_1, .string a0_2]) (t := 61) ?hr ?_; (case hd => rfl); (case hg => rfl); (case hr => first | (go_simp; done) | (go_simp; rfl)); intro gb113 hg w24 hbox hb; have n0_ := Aside0.mk (below_step (by repeat (first | (with_reducible first | exact HB.out | apply yA | apply yN | apply yD) | exact HB.out)) hb); have n1_ := Aside0.mk (hbox); have n2_ := Aside0.mk ((by rw [hg]; exact (below_size (by repeat (first | (with_reducible first | exact HB.out | apply yA | apply yN | apply yD) | exact HB.out))) : w.heap.size ≤ gb113)); have n3_ := Aside0.mk ((by rw [hg]; exact (below_size (by repeat (first | (with_reducible first | exact HB.out | apply yA | apply yN | apply yD) | exact HB.out))) : w.heap.size ≤ gb113)); clear HB; have HB := n0_; have BK113 := n1_; have GW113 := n2_; have GE113 := n3_; clear n0_ n1_ n2_ n3_; clear hb hbox hg; have hcz25_0 : w24.cell? ⟨gb113, 0, none⟩ = some (.int .i64 a0_0) := (blk_cell BK113.out 0).trans rfl; have hcz25_1 : w24.cell? ⟨gb113, 1, none⟩ = some (.int .i64 a0_1) := (blk_cell BK113.out 1).trans rfl; have hcz25_2 : w24.cell? ⟨gb113, 2, none⟩ = some (.string a0_2) := (blk_cell BK113.out 2).trans rfl; have hfz25_0 := blk_frozen BK113.out 0; have hfz25_1 := blk_frozen BK113.out 1; have hfz25_2 := blk_frozen BK113.out 2) | (go_at_call 124; (with_reducible refine (value_printable_s.calls a0_2 t114 _ A23.out).mono ?_); rintro e w' ⟨rfl, ⟨nd, rfl⟩⟩))
              go_ret
              exact ⟨by first | rfl | (simp [errW_none, errW_some] <;> rfl) | (simp [*, errW_none, errW_some] <;> rfl), by repeat (first | (with_reducible first | exact HB.out | apply yA | apply yN | apply yD | refine below_set ?_ GE113.out) | exact HB.out)⟩
            · rw [if_neg c22] at H
              have c22b0 : decide ((a0_2.size : Int) ≤ 200) = false := decide_eq_false c22
              have c22b1 : decide (a0_2.size ≤ 200) = false := decide_eq_false (by omega)
              clear c22
              obtain rfl := Option.some.inj H
              go_enter Tryz.func89, Tryz.ntmps89
              go_wp2_with (first | ((with_reducible refine gate_dst (N := 1) rfl ?_); (try (refine gate_guard (by rfl) ?_; dsimp only)); refine box_event ?hg (N := 1) ?hd (cs := #[.int .i64 a0_0, .int .i64 a0_1, .string a0_2]) (t := 61) ?hr ?_; (case hd => rfl); (case hg => rfl); (case hr => first | (go_simp; done) | (go_simp; rfl)); intro gb113 hg w26 hbox hb; have n0_ := Aside0.mk (below_step (by repeat (first | (with_reducible first | exact HB.out | apply yA | apply yN | apply yD) | exact HB.out)) hb); have n1_ := Aside0.mk (hbox); have n2_ := Aside0.mk ((by rw [hg]; exact (below_size (by repeat (first | (with_reducible first | exact HB.out | apply yA | apply yN | apply yD) | exact HB.out))) : w.heap.size ≤ gb113)); have n3_ := Aside0.mk ((by rw [hg]; exact (below_size (by repeat (first | (with_reducible first | exact HB.out | apply yA | apply yN | apply yD) | exact HB.out))) : w.heap.size ≤ gb113)); clear HB; have HB := n0_; have BK113 := n1_; have GW113 := n2_; have GE113 := n3_; clear n0_ n1_ n2_ n3_; clear hb hbox hg; have hcz27_0 : w26.cell? ⟨gb113, 0, none⟩ = some (.int .i64 a0_0) := (blk_cell BK113.out 0).trans rfl; have hcz27_1 : w26.cell? ⟨gb113, 1, none⟩ = some (.int .i64 a0_1) := (blk_cell BK113.out 1).trans rfl; have hcz27_2 : w26.cell? ⟨gb113, 2, none⟩ = some (.string a0_2) := (blk_cell BK113.out 2).trans rfl; have hfz27_0 := blk_frozen BK113.out 0; have hfz27_1 := blk_frozen BK113.out 1; have hfz27_2 := blk_frozen BK113.out 2))
              go_ret
              exact ⟨by first | rfl | (simp [errW_none, errW_some] <;> rfl) | (simp [*, errW_none, errW_some] <;> rfl), by repeat (first | (with_reducible first | exact HB.out | apply yA | apply yN | apply yD | refine below_set ?_ GE113.out) | exact HB.out)⟩
          · rw [if_neg c21] at H
            have c21b0 : (a0_1 == 0) = false := beq_eq_false_iff_ne.mpr c21
            have c21b1 : (a0_1 != 0) = true := bne_iff_ne.mpr c21
            obtain rfl := Option.some.inj H
            go_enter Tryz.func89, Tryz.ntmps89
            go_wp2_with (first | ((with_reducible refine gate_dst (N := 1) rfl ?_); (try (refine gate_guard (by rfl) ?_; dsimp only)); refine box_event ?hg (N := 1) ?hd (cs := #[.int .i64 a0_0, .int .i64 a0_1, .string a0_2]) (t := 61) ?hr ?_; (case hd => rfl); (case hg => rfl); (case hr => first | (go_simp; done) | (go_simp; rfl)); intro gb113 hg w28 hbox hb; have n0_ := Aside0.mk (below_step (by repeat (first | (with_reducible first | exact HB.out | apply yA | apply yN | apply yD) | exact HB.out)) hb); have n1_ := Aside0.mk (hbox); have n2_ := Aside0.mk ((by rw [hg]; exact (below_size (by repeat (first | (with_reducible first | exact HB.out | apply yA | apply yN | apply yD) | exact HB.out))) : w.heap.size ≤ gb113)); have n3_ := Aside0.mk ((by rw [hg]; exact (below_size (by repeat (first | (with_reducible first | exact HB.out | apply yA | apply yN | apply yD) | exact HB.out))) : w.heap.size ≤ gb113)); clear HB; have HB := n0_; have BK113 := n1_; have GW113 := n2_; have GE113 := n3_; clear n0_ n1_ n2_ n3_; clear hb hbox hg; have hcz29_0 : w28.cell? ⟨gb113, 0, none⟩ = some (.int .i64 a0_0) := (blk_cell BK113.out 0).trans rfl; have hcz29_1 : w28.cell? ⟨gb113, 1, none⟩ = some (.int .i64 a0_1) := (blk_cell BK113.out 1).trans rfl; have hcz29_2 : w28.cell? ⟨gb113, 2, none⟩ = some (.string a0_2) := (blk_cell BK113.out 2).trans rfl; have hfz29_0 := blk_frozen BK113.out 0; have hfz29_1 := blk_frozen BK113.out 1; have hfz29_2 := blk_frozen BK113.out 2))
            go_ret
            exact ⟨by first | rfl | (simp [errW_none, errW_some] <;> rfl) | (simp [*, errW_none, errW_some] <;> rfl), by repeat (first | (with_reducible first | exact HB.out | apply yA | apply yN | apply yD | refine below_set ?_ GE113.out) | exact HB.out)⟩
        · rw [if_neg c20] at H
          have c20b0 : (a0_0 == 3) = false := beq_eq_false_iff_ne.mpr c20
          have c20b1 : (a0_0 != 3) = true := bne_iff_ne.mpr c20
          obtain rfl := Option.some.inj H
          go_enter Tryz.func89, Tryz.ntmps89
          go_wp2_with (first | ((with_reducible refine gate_dst (N := 1) rfl ?_); (try (refine gate_guard (by rfl) ?_; dsimp only)); refine box_event ?hg (N := 1) ?hd (cs := #[.int .i64 a0_0, .int .i64 a0_1, .string a0_2]) (t := 61) ?hr ?_; (case hd => rfl); (case hg => rfl); (case hr => first | (go_simp; done) | (go_simp; rfl)); intro gb113 hg w30 hbox hb; have n0_ := Aside0.mk (below_step (by repeat (first | (with_reducible first | exact HB.out | apply yA | apply yN | apply yD) | exact HB.out)) hb); have n1_ := Aside0.mk (hbox); have n2_ := Aside0.mk ((by rw [hg]; exact (below_size (by repeat (first | (with_reducible first | exact HB.out | apply yA | apply yN | apply yD) | exact HB.out))) : w.heap.size ≤ gb113)); have n3_ := Aside0.mk ((by rw [hg]; exact (below_size (by repeat (first | (with_reducible first | exact HB.out | apply yA | apply yN | apply yD) | exact HB.out))) : w.heap.size ≤ gb113)); clear HB; have HB := n0_; have BK113 := n1_; have GW113 := n2_; have GE113 := n3_; clear n0_ n1_ n2_ n3_; clear hb hbox hg; have hcz31_0 : w30.cell? ⟨gb113, 0, none⟩ = some (.int .i64 a0_0) := (blk_cell BK113.out 0).trans rfl; have hcz31_1 : w30.cell? ⟨gb113, 1, none⟩ = some (.int .i64 a0_1) := (blk_cell BK113.out 1).trans rfl; have hcz31_2 : w30.cell? ⟨gb113, 2, none⟩ = some (.string a0_2) := (blk_cell BK113.out 2).trans rfl; have hfz31_0 := blk_frozen BK113.out 0; have hfz31_1 := blk_frozen BK113.out 1; have hfz31_2 := blk_frozen BK113.out 2))
          go_ret
          exact ⟨by first | rfl | (simp [errW_none, errW_some] <;> rfl) | (simp [*, errW_none, errW_some] <;> rfl), by repeat (first | (with_reducible first | exact HB.out | apply yA | apply yN | apply yD | refine below_set ?_ GE113.out) | exact HB.out)⟩
theorem value_Is.f_at (k i : Int) (s : ByteArray) : value_Is.f k i s = some (isB k i s) := by
  unfold value_Is.f isB
  simp only [toList_nil_iff, ByteArray.toList_eq]
  by_cases h0 : k = 0
  · simp only [if_pos h0]; by_cases hi : i = 0
    · simp [hi]
    · simp [hi]
  simp only [if_neg h0]
  by_cases h1 : k = 1
  · simp only [if_pos h1]; cases s.data.toList <;> rfl
  simp only [if_neg h1]
  by_cases h2 : k = 2
  · simp only [if_pos h2]; by_cases hs : s.data.toList = []
    · simp only [if_pos hs, hs]; by_cases hi : i = 0
      · simp [hi]
      · simp only [if_neg hi]; simp [hi]; by_cases h1 : i = 1 <;> simp [h1]
    · simp only [if_neg hs]; cases hl : s.data.toList with
      | nil => exact absurd hl hs
      | cons c l => simp
  simp only [if_neg h2]
  by_cases h3 : k = 3
  · simp only [if_pos h3]; by_cases hi : i = 0
    · simp only [if_pos hi]; by_cases hs : (s.size : Int) ≤ 200
      · simp only [if_pos hs, value_printable_s.f]; rw [if_pos (by omega)]; have : s.size ≤ 200 := by omega
        simp [hi, this]
      · simp only [if_neg hs]; have : ¬ s.size ≤ 200 := by omega
        simp [this]
    · simp only [if_neg hi]; simp [hi]
  simp only [if_neg h3]
def value_Is_s.f (a0_0 : Int) (a0_1 : Int) (a0_2 : ByteArray) : Option (Bool) := some (isB a0_0 a0_1 a0_2)
theorem value_Is_s.calls (a0_0 : Int) (a0_1 : Int) (a0_2 : ByteArray) (r : Bool) (w : World) (h : value_Is_s.f a0_0 a0_1 a0_2 = some r) :
    Calls Tryz.prog 89 #[.agg #[.int .i64 a0_0, .int .i64 a0_1, .string a0_2]] w fun e w' => e = .returned (.bool r) ∧ Below w.heap.size w w' :=
  value_Is.calls a0_0 a0_1 a0_2 r w (by rw [value_Is.f_at]; exact h)
def rows_small_2.f (a0_0 : Int) (a0_1 : Int) (a0_2 : ByteArray) : Option (Bool) := (value_Is_s.f a0_0 a0_1 a0_2).bind fun t116 => (some (!t116))
set_option maxHeartbeats 8000000 in
set_option maxRecDepth 100000 in
theorem rows_small_2.calls (a0_0 : Int) (a0_1 : Int) (a0_2 : ByteArray) (r : Bool) (w : World) (h : rows_small_2.f a0_0 a0_1 a0_2 = some r) :
    Calls Tryz.prog 88 #[.agg #[.int .i64 a0_0, .int .i64 a0_1, .string a0_2]] w fun e w' => e = .returned (.bool r) ∧ Below w.heap.size w w' := by
  have hu61 := Tryz.underlying61
  have HB := Aside0.mk (Below.refl w.heap.size w)
  have H : ((value_Is_s.f a0_0 a0_1 a0_2).bind fun t116 => (some (!t116))) = some r := h
  clear h
  replace H := Option.bind_eq_some_iff.mp H
  obtain ⟨t116, A20, H⟩ := H
  replace H : (some (!t116)) = some r := H
  have A2 := Aside0.mk A20
  clear A20
  obtain rfl := Option.some.inj H
  go_enter Tryz.func88, Tryz.ntmps88
  go_wp2_with (first | ((with_reducible refine gate_dst (N := 1) rfl ?_); refine box_event ?hg (N := 1) ?hd (cs := #[.int .i64 a0_0, .int .i64 a0_1, .string a0_2]) (t := 61) ?hr ?_; (case hd => rfl); (case hg => rfl); (case hr => first | (go_simp; done) | (go_simp; rfl)); intro gb115 hg w3 hbox hb; have n0_ := Aside0.mk (below_step (by repeat (first | (with_reducible first | exact HB.out | apply yA | apply yN | apply yD) | exact HB.out)) hb); have n1_ := Aside0.mk (hbox); have n2_ := Aside0.mk ((by rw [hg]; exact (below_size (by repeat (first | (with_reducible first | exact HB.out | apply yA | apply yN | apply yD) | exact HB.out))) : w.heap.size ≤ gb115)); have n3_ := Aside0.mk ((by rw [hg]; exact (below_size (by repeat (first | (with_reducible first | exact HB.out | apply yA | apply yN | apply yD) | exact HB.out))) : w.heap.size ≤ gb115)); clear HB; have HB := n0_; have BK115 := n1_; have GW115 := n2_; have GE115 := n3_; clear n0_ n1_ n2_ n3_; clear hb hbox hg; have hcz4_0 : w3.cell? ⟨gb115, 0, none⟩ = some (.int .i64 a0_0) := (blk_cell BK115.out 0).trans rfl; have hcz4_1 : w3.cell? ⟨gb115, 1, none⟩ = some (.int .i64 a0_1) := (blk_cell BK115.out 1).trans rfl; have hcz4_2 : w3.cell? ⟨gb115, 2, none⟩ = some (.string a0_2) := (blk_cell BK115.out 2).trans rfl; have hfz4_0 := blk_frozen BK115.out 0; have hfz4_1 := blk_frozen BK115.out 1; have hfz4_2 := blk_frozen BK115.out 2) | ((with_reducible refine gate_callee (f := 89) rfl ?_); refine goesL_ (some 4) rfl rfl Tryz.func89 (by kernel_rfl) rfl #[.agg #[.int .i64 a0_0, .int .i64 a0_1, .string a0_2]] rfl (by (try simp only [List.map_toArray, List.map_cons, List.map_nil]); first | done | rfl | (simp only [List.length_drop, List.length_take]; rfl)) ?_; (with_reducible refine (value_Is_s.calls a0_0 a0_1 a0_2 t116 _ A2.out).mono ?_); rintro e w5 ⟨rfl, hb⟩; refine ⟨_, rfl, ?_⟩; have n0_ := Aside0.mk (blk_below (g := gb115) (o := .cells #[.int .i64 a0_0, .int .i64 a0_1, .string a0_2] 61 (0, 0)) (by (with_reducible repeat (first | refine zN ?_ _ | refine zD ?_ | refine zA ?_ _)); exact BK115.out) hb); have n1_ := Aside0.mk (below_step (by repeat (first | (with_reducible first | exact HB.out | apply yA | apply yN | apply yD | refine below_set ?_ GE115.out) | exact HB.out)) hb); clear BK115; clear HB; have BK115 := n0_; have HB := n1_; clear n0_ n1_; (try clear hb); (try clear hb2); (try clear hk); (try clear hi)))
  go_ret
  exact ⟨by first | rfl | (simp [errW_none, errW_some] <;> rfl) | (simp [*, errW_none, errW_some] <;> rfl), by repeat (first | (with_reducible first | exact HB.out | apply yA | apply yN | apply yD | refine below_set ?_ GE115.out) | exact HB.out)⟩
set_option maxRecDepth 100000 in
set_option maxHeartbeats 1000000 in
theorem idxFuncR.calls (p : List V → Bool) (g : Nat) (lb : Array Value) (eg : ∀ args w, (callFunc g args).run Tryz.prog w = .ok (.enter g args) w) (A0 : Option Addr) (c0 : Nat) (l0 : List (List V)) (w : World)
    (hr0 : Kd.C (Kd.slice 61 k61) w A0 l0.length l0) (hlen : l0.length ≤ 4611686018427387904)
    (hp : ∀ x ∈ l0, ∀ (A : Option Addr) (c : Nat) (W : World), x.length ≤ c → Kd.C k61 W A x.length x → Below w.heap.size w W → Calls Tryz.prog g (#[.slice A x.length c] ++ lb) W fun e w' => e = .returned (.bool (p x)) ∧ Below W.heap.size W w') :
    Calls Tryz.prog 106 #[.slice A0 l0.length c0, .func (.func g) #[] lb] w fun e w' => e = .returned (.int .i64 (idxF p l0)) ∧ Below w.heap.size w w' := by
  have hu61 := Tryz.underlying61
  have HR0 := Aside0.mk hr0
  have HP := Aside0.mk hp
  clear hr0 hp
  have HB := Aside0.mk (Below.refl w.heap.size w)
  obtain ⟨n, hn⟩ : ∃ n, n = l0.length := ⟨_, rfl⟩
  rw [← hn]
  have hle : n ≤ 4611686018427387904 := by omega
  have HN := Aside0.mk hn
  clear hn hlen
  go_enter Tryz.func106, Tryz.ntmps106
  go_wp2
  go_loopg [5, 8] n (fun gg _ s8 wr => ∃ kk : Nat, kk ≤ n ∧ n - kk ≤ gg ∧ s8 = .int .i64 kk ∧ Aside0 (Below w.heap.size w wr) ∧ Aside0 (∀ j (hj : j < kk) (hj2 : j < l0.length), p l0[j] = false))
  case atStart => exact ⟨0, Nat.zero_le _, by omega, rfl, HB, ⟨fun j hj => absurd hj (Nat.not_lt_zero _)⟩⟩
  case round =>
    clear HB
    obtain ⟨kk, hkk, hg, rfl, HB, HA⟩ := hrel
    by_cases hlt : kk < n
    · have hltz : (kk : Int) < (n : Int) := by omega
      have hlt' : kk < l0.length := by have := HN.out; omega
      obtain ⟨ad, e1, hcs⟩ := HR0.out.2.2 (by omega)
      cases e1
      obtain ⟨cs, hcs1, ⟨A1, c1, rfl, hle1, hC1⟩, hcs3⟩ := hcs kk l0[kk] (List.getElem?_eq_getElem hlt')
      have hx0 : w.cell? (ad.add kk) = some (.slice A1 l0[kk].length c1) := by
        have h9 := hcs3 0 _ rfl
        rw [show kk * (Kd.slice 61 k61).sz + 0 = kk from Nat.mul_one kk] at h9
        exact h9
      replace hx0 := (HB.out.cell (World.block_lt_of_cell? w _ hx0)).trans hx0
      have hcall := HP.out l0[kk] (List.getElem_mem hlt') A1 c1 wr hle1 (Kd.C_below hC1 HB.out) HB.out
      have hy : l0[kk]? = some l0[kk] := List.getElem?_eq_getElem hlt'
      clear hcs3 hcs1 hC1 hle1
      generalize l0[kk] = y at hx0 hcall hy
      generalize y.length = ylen at hx0 hcall
      have HY := Aside0.mk hy
      clear hy hlt'
      cases hq : p y with
      | true =>
        rw [hq] at hcall
        have HC := Aside0.mk hcall
        have HQ := Aside0.mk hq
        clear hcall hq
        go_wp2_with (go_at_fn g; refine HC.out.mono ?_; rintro e w' ⟨rfl, hb'⟩)
        go_ret
        refine ⟨?_, HB.out.trans (hb'.mono HB.out.size)⟩
        have hlt' : kk < l0.length := by have := HN.out; omega
        rw [idxF_hit p l0 kk hlt' (by rw [(List.getElem?_eq_some_iff.1 HY.out).2]; exact HQ.out) (fun j hj => HA.out j hj (by omega))]
        rfl
      | false =>
        rw [hq] at hcall
        have HC := Aside0.mk hcall
        have HQ := Aside0.mk hq
        clear hcall hq
        go_wp2_with (go_at_fn g; refine HC.out.mono ?_; rintro e w' ⟨rfl, hb'⟩)
        go_roundg (n - (kk + 1))
        case measure => omega
        case rel =>
          refine ⟨kk + 1, by omega, by omega, by go_num, ⟨HB.out.trans (hb'.mono HB.out.size)⟩, ⟨fun j hj hj2 => ?_⟩⟩
          by_cases e : j = kk
          · subst e
            rw [(List.getElem?_eq_some_iff.1 HY.out).2]; exact HQ.out
          · exact HA.out j (by omega) hj2
    · have hltz : decide (kk < n) = false := by simpa using hlt
      have HE : Aside0 (kk = n) := ⟨by omega⟩
      clear hlt
      go_wp2
      go_ret
      refine ⟨?_, HB.out⟩
      rw [idxF_miss p l0 (fun j hj => HA.out j (by have := HN.out; have := HE.out; omega) hj)]
      rfl
theorem contFuncR.calls (p : List V → Bool) (g : Nat) (lb : Array Value) (eg : ∀ args w, (callFunc g args).run Tryz.prog w = .ok (.enter g args) w) (A0 : Option Addr) (c0 : Nat) (l0 : List (List V)) (w : World)
    (hr0 : Kd.C (Kd.slice 61 k61) w A0 l0.length l0) (hlen : l0.length ≤ 4611686018427387904)
    (hp : ∀ x ∈ l0, ∀ (A : Option Addr) (c : Nat) (W : World), x.length ≤ c → Kd.C k61 W A x.length x → Below w.heap.size w W → Calls Tryz.prog g (#[.slice A x.length c] ++ lb) W fun e w' => e = .returned (.bool (p x)) ∧ Below W.heap.size W w') :
    Calls Tryz.prog 68 #[.slice A0 l0.length c0, .func (.func g) #[] lb] w fun e w' => e = .returned (.bool (l0.any p)) ∧ Below w.heap.size w w' := by
  have hc := idxFuncR.calls p g lb eg A0 c0 l0 w hr0 hlen hp
  have HE := Aside0.mk (idxF_nonneg p l0)
  clear hr0 hp
  generalize idxF p l0 = r at hc HE
  rw [← HE.out]
  go_enter Tryz.func68, Tryz.ntmps68
  go_wp2_with (go_at_call 106; refine hc.mono ?_; rintro e w' ⟨rfl, hb'⟩)
  go_ret
  exact ⟨rfl, hb'⟩
set_option maxRecDepth 100000 in
set_option maxHeartbeats 1000000 in
theorem idxFuncV.calls (p : V → Bool) (g : Nat) (lb : Array Value) (eg : ∀ args w, (callFunc g args).run Tryz.prog w = .ok (.enter g args) w) (A0 : Option Addr) (c0 : Nat) (l0 : List V) (w : World)
    (hr0 : Kd.C k61 w A0 l0.length l0) (hlen : l0.length ≤ 4611686018427387904)
    (hp : ∀ x ∈ l0, ∀ W, Below w.heap.size w W → Calls Tryz.prog g (#[.agg #[.int .i64 x.f0, .int .i64 x.f1, .string x.f2]] ++ lb) W fun e w' => e = .returned (.bool (p x)) ∧ Below W.heap.size W w') :
    Calls Tryz.prog 123 #[.slice A0 l0.length c0, .func (.func g) #[] lb] w fun e w' => e = .returned (.int .i64 (idxF p l0)) ∧ Below w.heap.size w w' := by
  have hu61 := Tryz.underlying61
  have HR0 := Aside0.mk hr0
  have HP := Aside0.mk hp
  clear hr0 hp
  have HB := Aside0.mk (Below.refl w.heap.size w)
  obtain ⟨n, hn⟩ : ∃ n, n = l0.length := ⟨_, rfl⟩
  rw [← hn]
  have hle : n ≤ 4611686018427387904 := by omega
  have HN := Aside0.mk hn
  clear hn hlen
  go_enter Tryz.func123, Tryz.ntmps123
  go_wp2
  go_loopg [5, 8] n (fun gg _ s8 wr => ∃ kk : Nat, kk ≤ n ∧ n - kk ≤ gg ∧ s8 = .int .i64 kk ∧ Aside0 (Below w.heap.size w wr) ∧ Aside0 (∀ j (hj : j < kk) (hj2 : j < l0.length), p l0[j] = false))
  case atStart => exact ⟨0, Nat.zero_le _, by omega, rfl, HB, ⟨fun j hj => absurd hj (Nat.not_lt_zero _)⟩⟩
  case round =>
    clear HB
    obtain ⟨kk, hkk, hg, rfl, HB, HA⟩ := hrel
    by_cases hlt : kk < n
    · have hltz : (kk : Int) < (n : Int) := by omega
      have hlt' : kk < l0.length := by have := HN.out; omega
      obtain ⟨ad, e1, hx0, hx1, hx2⟩ := at_T61 HR0.out (kk : Int) (by omega) (by omega)
      cases e1
      rw [rd_at _ _ hlt'] at hx0 hx1 hx2
      simp only [Int.toNat_natCast] at hx0 hx1 hx2
      replace hx0 := (HB.out.cell (World.block_lt_of_cell? w _ hx0)).trans hx0
      replace hx1 := (HB.out.cell (World.block_lt_of_cell? w _ hx1)).trans hx1
      replace hx2 := (HB.out.cell (World.block_lt_of_cell? w _ hx2)).trans hx2
      have hcall := HP.out l0[kk] (List.getElem_mem hlt') wr HB.out
      have hy : l0[kk]? = some l0[kk] := List.getElem?_eq_getElem hlt'
      generalize l0[kk] = y at hx0 hx1 hx2 hcall hy
      have HY := Aside0.mk hy
      clear hy hlt'
      cases hq : p y with
      | true =>
        rw [hq] at hcall
        have HC := Aside0.mk hcall
        have HQ := Aside0.mk hq
        clear hcall hq
        go_wp2_with (go_at_fn g; refine HC.out.mono ?_; rintro e w' ⟨rfl, hb'⟩)
        go_ret
        refine ⟨?_, HB.out.trans (hb'.mono HB.out.size)⟩
        have hlt' : kk < l0.length := by have := HN.out; omega
        rw [idxF_hit p l0 kk hlt' (by rw [(List.getElem?_eq_some_iff.1 HY.out).2]; exact HQ.out) (fun j hj => HA.out j hj (by omega))]
        rfl
      | false =>
        rw [hq] at hcall
        have HC := Aside0.mk hcall
        have HQ := Aside0.mk hq
        clear hcall hq
        go_wp2_with (go_at_fn g; refine HC.out.mono ?_; rintro e w' ⟨rfl, hb'⟩)
        go_roundg (n - (kk + 1))
        case measure => omega
        case rel =>
          refine ⟨kk + 1, by omega, by omega, by go_num, ⟨HB.out.trans (hb'.mono HB.out.size)⟩, ⟨fun j hj hj2 => ?_⟩⟩
          by_cases e : j = kk
          · subst e
            rw [(List.getElem?_eq_some_iff.1 HY.out).2]; exact HQ.out
          · exact HA.out j (by omega) hj2
    · have hltz : decide (kk < n) = false := by simpa using hlt
      have HE : Aside0 (kk = n) := ⟨by omega⟩
      clear hlt
      go_wp2
      go_ret
      refine ⟨?_, HB.out⟩
      rw [idxF_miss p l0 (fun j hj => HA.out j (by have := HN.out; have := HE.out; omega) hj)]
      rfl
theorem contFuncV.calls (p : V → Bool) (g : Nat) (lb : Array Value) (eg : ∀ args w, (callFunc g args).run Tryz.prog w = .ok (.enter g args) w) (A0 : Option Addr) (c0 : Nat) (l0 : List V) (w : World)
  (hr0 : Kd.C k61 w A0 l0.length l0) (hlen : l0.length ≤ 4611686018427387904)
  (hp : ∀ x ∈ l0, ∀ W, Below w.heap.size w W → Calls Tryz.prog g (#[.agg #[.int .i64 x.f0, .int .i64 x.f1, .string x.f2]] ++ lb) W fun e w' => e = .returned (.bool (p x)) ∧ Below W.heap.size W w') :
  Calls Tryz.prog 87 #[.slice A0 l0.length c0, .func (.func g) #[] lb] w fun e w' => e = .returned (.bool (l0.any p)) ∧ Below w.heap.size w w' := by
 have hc := idxFuncV.calls p g lb eg A0 c0 l0 w hr0 hlen hp
 have HE := Aside0.mk (idxF_nonneg p l0)
 clear hr0 hp
 generalize idxF p l0 = r at hc HE
 rw [← HE.out]
 go_enter Tryz.func87, Tryz.ntmps87
 go_wp2_with (go_at_call 123; refine hc.mono ?_; rintro e w' ⟨rfl, hb'⟩)
 go_ret
 exact ⟨rfl, hb'⟩
end Go.Proofs.YtmhobbdedmjmnaaGreatDoor.Q
end
