/- A comparison that is total; the order of values is one; a row of values that a sort has laid, and what a world keeps then. -/
import Derived.Test.YtinhpbmoiamepaaGreatDoorPlain
import Derived.Shelf.SlSortCmp.NoneTotal
import Derived.Lib.SlicesCompact
namespace Go.Proofs.YtinhpbmoiamepaaGreatDoor
open Go.RowKit Go.Sort Go.Proofs.YtinhpbmoiamepaaGreatDoor.Q Go.Proofs.YtinhpbmoiamepaaGreatDoorW.PrintWords Go.Proofs.YtinhpbmoiamepaaGreatDoorW.PrintLast Go.Proofs.YtinhpbmoiamepaaGreatDoorW.PrintMore

/-- a comparison that is total: turned round, it is the other way; 0 for the same alone; it leads on -/
structure TC {α : Type} (c : α → α → Int) : Prop where
  turn : ∀ x y, c y x = - c x y
  same : ∀ x y, c x y = 0 → x = y
  on : ∀ x y z, c x y ≤ 0 → c y z ≤ 0 → c x z ≤ 0
theorem TC.refl {α : Type} {c : α → α → Int} (h : TC c) (x : α) : c x x = 0 := by have := h.turn x x; omega
theorem TC.lt {α : Type} {c : α → α → Int} (h : TC c) {x y z : α} (h1 : c x y < 0) (h2 : c y z ≤ 0) : c x z < 0 := by
  have h3 := h.on x y z (by omega) h2
  rcases Int.lt_or_eq_of_le h3 with h4 | h4
  · exact h4
  · obtain rfl := h.same x z h4
    have := h.turn x y
    omega
theorem TC.swo {α : Type} {c : α → α → Int} (h : TC c) : SWO (Go.Proofs.ltOf c) where
  irrefl x := by unfold Go.Proofs.ltOf; rw [h.refl]; rfl
  trans x y z h1 h2 := by
    unfold Go.Proofs.ltOf at *
    simp only [decide_eq_true_eq] at *
    exact h.lt h1 (by omega)
  ntrans x y z h1 h2 := by
    unfold Go.Proofs.ltOf at *
    simp only [decide_eq_false_iff_not] at *
    have a := h.turn x y
    have b := h.turn y z
    have d := h.turn x z
    have := h.on z y x (by omega) (by omega)
    omega
theorem TC.tot {α : Type} {c : α → α → Int} (h : TC c) (x y : α) (h1 : Go.Proofs.ltOf c x y = false) (h2 : Go.Proofs.ltOf c y x = false) : x = y := by
  unfold Go.Proofs.ltOf at *
  simp only [decide_eq_false_iff_not] at *
  have a := h.turn x y
  exact h.same x y (by omega)
theorem cmpI_turn (a b : Int) : cmpI b a = - cmpI a b := by
  unfold cmpI
  by_cases h1 : a < b
  · rw [if_pos h1, if_neg (by omega), if_pos h1]; rfl
  · rw [if_neg h1, if_neg h1]
    by_cases h2 : b < a
    · rw [if_pos h2, if_pos h2]
    · rw [if_neg h2, if_neg h2]; rfl
theorem cmpI_zero {a b : Int} (h : cmpI a b = 0) : a = b := by
  unfold cmpI at h
  split at h
  · cases h
  · split at h
    · cases h
    · omega
theorem cmpI_neg {a b : Int} : cmpI a b < 0 ↔ a < b := by
  unfold cmpI
  by_cases h1 : a < b
  · rw [if_pos h1]; omega
  · rw [if_neg h1]
    split <;> omega
theorem cmpI_tc : TC cmpI := ⟨cmpI_turn, fun _ _ => cmpI_zero, fun x y z h1 h2 => by
  have a := cmpI_turn x y
  have b := cmpI_turn y z
  have d := cmpI_turn x z
  have e1 := @cmpI_neg y x
  have e2 := @cmpI_neg z y
  have e3 := @cmpI_neg z x
  omega⟩
theorem cmpL_turn : ∀ x y : List UInt8, cmpL y x = - cmpL x y
  | [], [] => rfl
  | [], _ :: _ => rfl
  | _ :: _, [] => rfl
  | a :: x, b :: y => by
    simp only [cmpL]
    have ih := cmpL_turn x y
    simp only [UInt8.lt_iff_toNat_lt]
    by_cases h1 : a.toNat < b.toNat
    · rw [if_pos h1, if_neg (by omega), if_pos h1]; rfl
    · rw [if_neg h1, if_neg h1]
      by_cases h2 : b.toNat < a.toNat
      · rw [if_pos h2, if_pos h2]
      · rw [if_neg h2, if_neg h2, ih]
theorem cmpL_zero : ∀ x y : List UInt8, cmpL x y = 0 → x = y
  | [], [], _ => rfl
  | [], _ :: _, h => by simp [cmpL] at h
  | _ :: _, [], h => by simp [cmpL] at h
  | a :: x, b :: y, h => by
    simp only [cmpL, UInt8.lt_iff_toNat_lt] at h
    by_cases h1 : a.toNat < b.toNat
    · rw [if_pos h1] at h; cases h
    · rw [if_neg h1] at h
      by_cases h2 : b.toNat < a.toNat
      · rw [if_pos h2] at h; cases h
      · rw [if_neg h2] at h
        rw [cmpL_zero x y h, show a = b from UInt8.toNat_inj.1 (by omega)]
theorem cmpL_on : ∀ x y z : List UInt8, cmpL x y ≤ 0 → cmpL y z ≤ 0 → cmpL x z ≤ 0
  | [], _, [], _, _ => by simp [cmpL]
  | [], _, _ :: _, _, _ => by simp [cmpL]
  | _ :: _, [], _, h, _ => by simp [cmpL] at h
  | _ :: _, _ :: _, [], _, h => by simp [cmpL] at h
  | a :: x, b :: y, d :: z, h1, h2 => by
    simp only [cmpL, UInt8.lt_iff_toNat_lt] at h1 h2 ⊢
    by_cases ab : b.toNat < a.toNat
    · rw [if_neg (by omega), if_pos ab] at h1; omega
    · by_cases bd : d.toNat < b.toNat
      · rw [if_neg (by omega), if_pos bd] at h2; omega
      · by_cases ad : a.toNat < d.toNat
        · rw [if_pos ad]; omega
        · rw [if_neg ad, if_neg (by omega)]
          rw [if_neg (by omega), if_neg (by omega)] at h1 h2
          exact cmpL_on x y z h1 h2
theorem cmpL_tc : TC cmpL := ⟨cmpL_turn, cmpL_zero, cmpL_on⟩
/-- one comparison after another -/
theorem TC.lex {α β γ : Type} {c : β → β → Int} {d : γ → γ → Int} (hc : TC c) (hd : TC d) (f : α → β) (g : α → γ) (hfg : ∀ x y, f x = f y → g x = g y → x = y) : TC fun x y => if c (f x) (f y) ≠ 0 then c (f x) (f y) else d (g x) (g y) where
  turn x y := by
    have a := hc.turn (f x) (f y)
    have b := hd.turn (g x) (g y)
    by_cases h : c (f x) (f y) = 0
    · simp only [h, ne_eq, not_true_eq_false, if_false, show c (f y) (f x) = 0 by omega]; exact b
    · simp only [h, ne_eq, not_false_eq_true, if_true, show ¬ c (f y) (f x) = 0 by omega]; exact a
  same x y h := by
    by_cases e : c (f x) (f y) = 0
    · simp only [e, ne_eq, not_true_eq_false, if_false] at h
      exact hfg x y (hc.same _ _ e) (hd.same _ _ h)
    · simp only [e, ne_eq, not_false_eq_true, if_true] at h
  on x y z h1 h2 := by
    by_cases e1 : c (f x) (f y) = 0
    · have q1 := hc.same _ _ e1
      simp only [e1, ne_eq, not_true_eq_false, if_false] at h1
      rw [q1]
      by_cases e2 : c (f y) (f z) = 0
      · simp only [e2, ne_eq, not_true_eq_false, if_false] at h2 ⊢
        exact hd.on _ _ _ h1 h2
      · simp only [e2, ne_eq, not_false_eq_true, if_true] at h2 ⊢
        exact h2
    · simp only [e1, ne_eq, not_false_eq_true, if_true] at h1
      have h3 : c (f y) (f z) ≤ 0 := by
        by_cases e2 : c (f y) (f z) = 0
        · omega
        · simp only [e2, ne_eq, not_false_eq_true, if_true] at h2; exact h2
      have h4 := hc.lt (show c (f x) (f y) < 0 by omega) h3
      simp only [show ¬ c (f x) (f z) = 0 by omega, ne_eq, not_false_eq_true, if_true]
      omega
instance : Inhabited V := ⟨⟨0, 0, ⟨#[]⟩⟩⟩
def encV (x : V) : List Value := [.int .i64 x.f0, .int .i64 x.f1, .string x.f2]
def cfV (x y : V) : Int := ordV x.f0 x.f1 x.f2 y.f0 y.f1 y.f2
theorem cfV_tc : TC cfV := by
  have h1 : TC fun (p q : Int × List UInt8) => if cmpI p.1 q.1 ≠ 0 then cmpI p.1 q.1 else cmpL p.2 q.2 := TC.lex cmpI_tc cmpL_tc (fun p => p.1) (fun p => p.2) (fun x y e f => Prod.ext e f)
  exact TC.lex cmpI_tc h1 (fun v : V => v.f0) (fun v : V => (v.f1, v.f2.data.toList)) (fun x y e f => by
    cases x; cases y
    injection f with f1 f2
    dsimp only at e f1 f2
    rw [e, f1, ba_ext f2])
/-- the order of values, as a test -/
def leV (x y : V) : Bool := !(Go.Proofs.ltOf cfV y x)
theorem leV_iff (x y : V) : leV x y = decide (cfV x y ≤ 0) := by
  unfold leV Go.Proofs.ltOf
  have := cfV_tc.turn x y
  by_cases h : cfV x y ≤ 0
  · rw [decide_eq_true h, decide_eq_false (by omega)]; rfl
  · rw [decide_eq_false h, decide_eq_true (by omega)]; rfl
/-- values, rising -/
def sortV (l : List V) : List V := l.mergeSort leV
theorem sortV_length (l : List V) : (sortV l).length = l.length := List.length_mergeSort _
theorem encV_length (x : V) : (encV x).length = 3 := rfl
theorem encV_one (x : V) : ∀ v ∈ encV x, v.oneCell' = true := by
  intro v hv
  simp only [encV, List.mem_cons, List.not_mem_nil, or_false] at hv
  rcases hv with rfl | rfl | rfl <;> rfl
theorem flat_get : ∀ (ys : List V) (j : Nat), j < ys.length * 3 → (ys.flatMap encV)[j]? = some ((encV ys.toArray[j / 3]!)[j % 3]!)
  | [], j, h => by simp at h
  | y :: r, j, h => by
    have h' : j < r.length * 3 + 3 := by rw [List.length_cons, Nat.add_mul, Nat.one_mul] at h; exact h
    rw [List.flatMap_cons]
    by_cases h3 : j < 3
    · rw [List.getElem?_append_left (by rw [encV_length]; exact h3), show j / 3 = 0 by omega, show j % 3 = j by omega]
      rw [show (y :: r).toArray[0]! = y from rfl]
      have : j = 0 ∨ j = 1 ∨ j = 2 := by omega
      rcases this with rfl | rfl | rfl <;> rfl
    · rw [List.getElem?_append_right (by rw [encV_length]; omega), encV_length, flat_get r (j - 3) (by omega), show (j - 3) / 3 = j / 3 - 1 by omega, show (j - 3) % 3 = j % 3 by omega]
      obtain ⟨q, hq⟩ : ∃ q, j / 3 = q + 1 := ⟨j / 3 - 1, by omega⟩
      rw [hq]
      simp [Array.getElem!_eq_getD, Array.getD]
theorem flat_length (ys : List V) : (ys.flatMap encV).length = ys.length * 3 := by
  induction ys with
  | nil => rfl
  | cons y r ih => rw [List.flatMap_cons, List.length_append, ih, encV_length, List.length_cons]; omega
theorem reps_flat {w : World} {base : Nat} {ok : Nat → Prop} : ∀ {ys : List V} {inner : List Value}, Reps (k25.M w base ok) 3 ys inner → inner = ys.flatMap encV := by
  intro ys inner h
  refine List.ext_getElem? fun j => ?_
  by_cases hj : j < ys.length * 3
  · rw [flat_get ys j hj]
    have hq : j / 3 < ys.length := by omega
    have h2 := k25_openM (h.2 (j / 3) ys[j / 3] (List.getElem?_eq_getElem hq))
    have h3 : ((inner.drop (j / 3 * 3)).take 3)[j % 3]? = inner[j]? := by
      rw [List.getElem?_take_of_lt (by omega), List.getElem?_drop, show j / 3 * 3 + j % 3 = j by omega]
    rw [← h3, h2]
    have e : ys.toArray[j / 3]! = ys[j / 3] := by simp [hq]
    rw [e]
    have : j % 3 = 0 ∨ j % 3 = 1 ∨ j % 3 = 2 := by omega
    rcases this with e | e | e <;> rw [e] <;> rfl
  · rw [List.getElem?_eq_none (by rw [h.1]; omega), List.getElem?_eq_none (by rw [flat_length]; omega)]
theorem flat_reps (w : World) (base : Nat) (ok : Nat → Prop) : ∀ ys : List V, Reps (k25.M w base ok) 3 ys (ys.flatMap encV)
  | [] => Reps.none _ _
  | y :: r => Reps.front (k25_mkM w base ok y) rfl (flat_reps w base ok r) rfl
theorem holds_of_R {w : World} {base g n cap : Nat} {ok : Nat → Prop} {xs : List V} (h : Kd.R k25 25 w base ok (.slice (some ⟨g, 0, none⟩) n cap) xs) : HoldsK encV 3 w g 0 xs.toArray := by
  obtain ⟨_, inner, ho, hr⟩ := h
  rcases ho.2 with ⟨he, _⟩ | ⟨g', cap', cur, he, _, hh, _, _, hs, ht⟩
  · cases he
  · injection he with he1 he2 he3
    injection he1 with he1
    injection he1 with he1
    subst he1
    have ht' : List.take (xs.length * 3) cur.toList = inner := ht
    intro j hj
    rw [size_flatK] at hj
    have hj' : j < xs.length * 3 := by simpa using hj
    refine ⟨?_, blk_frozen hh _⟩
    rw [blk_cell hh, get_flatK _ _ _ _ hj, Nat.zero_add]
    have h2 := flat_get xs j hj'
    rw [← reps_flat hr, ← ht', List.getElem?_take_of_lt hj', Array.getElem?_toList] at h2
    exact h2
/-- a row that a sort has laid: what it holds, and that all else lies where it lay -/
theorem sorted_R {w : World} {base g n cap m : Nat} {ok : Nat → Prop} {xs ys : List V} {os : Array Obj} (h : Kd.R k25 25 w base ok (.slice (some ⟨g, 0, none⟩) n cap) xs) (hl : ys.length = xs.length) :
    Kd.R k25 25 (sortWorldK encV 3 w g 0 m ys.toArray os) base ok (.slice (some ⟨g, 0, none⟩) n cap) ys := by
  obtain ⟨h0, inner, ho, hr⟩ := h
  refine ⟨h0, ys.flatMap encV, ?_, flat_reps _ _ _ ys⟩
  rcases ho with ⟨h1, ⟨he, _⟩ | ⟨g', cap', cur, he, hb, hh, h2, h3, hs, ht⟩⟩
  · cases he
  · injection he with he1 he2 he3
    injection he1 with he1
    injection he1 with he1
    subst he1
    have hg := blk_lt hh
    have hs' : cur.size = cap' * 3 := hs
    refine ⟨by rw [flat_length]; rfl, .inr ⟨g, cap', putCells id 0 (flatK encV 3 ys.toArray) cur, by rw [he2, he3, hl], hb, ?_, by rw [hl]; exact h2, h3, by simp [putCells, hs], ?_⟩⟩
    · unfold sortWorldK grow putRowK putRow mapBlock Sort.ahead
      show (w.heap.modify g _ ++ os)[g]? = _
      rw [Array.getElem?_append_left (by simpa using hg), Array.getElem?_modify, if_pos rfl, hh]
      rfl
    · show List.take (ys.length * 3) _ = _
      refine List.ext_getElem? fun j => ?_
      by_cases hj : j < ys.length * 3
      · rw [List.getElem?_take_of_lt hj, flat_get ys j hj]
        have hc : j < cur.size := by
          have : ys.length * 3 ≤ cap' * 3 := Nat.mul_le_mul_right 3 (by rw [hl]; exact h2)
          rw [hs']; exact Nat.lt_of_lt_of_le hj this
        rw [Array.getElem?_toList]
        unfold putCells
        rw [Array.getElem?_mapIdx, Array.getElem?_eq_getElem hc]
        rw [Option.map_some, if_pos ⟨Nat.zero_le _, by rw [size_flatK]; simpa using hj⟩]
        rw [Nat.sub_zero, get_flatK _ _ _ _ (by simpa using hj)]
        rfl
      · rw [List.getElem?_eq_none (by rw [List.length_take]; omega), List.getElem?_eq_none (by rw [flat_length]; omega)]
theorem sorted_other {w : World} {g m k : Nat} {ys : Array V} {os : Array Obj} (hk : k < w.heap.size) (hne : k ≠ g) : (sortWorldK encV 3 w g 0 m ys os).heap[k]? = w.heap[k]? := by
  unfold sortWorldK grow putRowK putRow mapBlock Sort.ahead
  show (w.heap.modify g _ ++ os)[k]? = _
  rw [Array.getElem?_append_left (by simpa using hk), Array.getElem?_modify, if_neg (fun e => hne e.symm)]
theorem sorted_below {B : Nat} {w0 w : World} {g m : Nat} {ys : Array V} {os : Array Obj} (h : Below B w0 w) (hB : B ≤ w.heap.size) (hg : B ≤ g) : Below B w0 (sortWorldK encV 3 w g 0 m ys os) :=
  ⟨h.os, h.tape, h.output, Nat.le_trans h.size (by unfold sortWorldK; rw [size_grow]; unfold putRowK; rw [size_putRow]; show _ ≤ (Sort.ahead w m).heap.size + _; exact Nat.le_add_right _ _), fun k hk => (sorted_other (by omega) (by omega)).trans (h.block k hk)⟩
instance : DecidableEq V := fun x y => decidable_of_iff (cfV x y = 0) ⟨cfV_tc.same x y, fun h => h ▸ cfV_tc.refl x⟩
/-- of a list the ones that are not what stands ahead of them -/
def onceV (l : List V) : List V := Lib.compactUpTo l.toArray l.length
theorem onceV_all (l : List V) (h : ∀ j, j < l.length → Lib.keeps l.toArray j = true) : onceV l = l := by
  unfold onceV Lib.compactUpTo
  rw [List.filter_eq_self.2 fun j hj => h j (List.mem_range.1 hj)]
  refine List.ext_getElem? fun j => ?_
  rw [List.getElem?_map]
  by_cases hj : j < l.length
  · rw [List.getElem?_range hj, List.getElem?_eq_getElem hj]
    simp [hj]
  · rw [List.getElem?_eq_none (by simpa using hj), List.getElem?_eq_none (by simpa using hj)]
    rfl
/-- a world that has grown, and whose count of draws has -/
structure BelowD (B : Nat) (w w' : World) : Prop where
  b : Below B w w'
  d : w.drawn ≤ w'.drawn
theorem BelowD.refl (B : Nat) (w : World) : BelowD B w w := ⟨Below.refl _ _, Nat.le_refl _⟩
theorem dA {w W : World} (h : BelowD w.heap.size w W) (o : Obj) : BelowD w.heap.size w (W.alloc o) := ⟨below_alloc h.b o, h.d⟩
theorem dN {B : Nat} {w W : World} (h : BelowD B w W) (n : Nat) : BelowD B w (W.drewN n) := ⟨pw_below_drewN h.b n, Nat.le_trans h.d (Nat.le_add_right _ _)⟩
theorem dD {B : Nat} {w W : World} (h : BelowD B w W) : BelowD B w W.drew := ⟨below_drew1 h.b, Nat.le_trans h.d (Nat.le_add_right _ _)⟩
theorem belowD_step {w W w2 : World} (h : BelowD w.heap.size w W) (k : BelowD W.heap.size W w2) : BelowD w.heap.size w w2 := ⟨below_step h.b k.b, Nat.le_trans h.d k.d⟩
theorem belowD_size {w W : World} (h : BelowD w.heap.size w W) : w.heap.size ≤ W.heap.size := h.b.size
theorem BelowD.grown {w W : World} (h : BelowD w.heap.size w W) : ∃ q os', W = grow (w.drewN q) os' := by
  refine ⟨W.drawn - w.drawn, W.heap.extract w.heap.size, ?_⟩
  have hh : W.heap = w.heap ++ W.heap.extract w.heap.size := by
    have hs := h.b.size
    apply Array.ext_getElem?
    intro k
    rw [Array.getElem?_append]
    by_cases hk : k < w.heap.size
    · rw [if_pos hk, h.b.block k hk]
    · rw [if_neg hk]
      simp only [Array.getElem?_extract]
      by_cases hk2 : k < W.heap.size
      · rw [if_pos (by omega), show w.heap.size + (k - w.heap.size) = k by omega]
      · rw [if_neg (by omega), Array.getElem?_eq_none (by omega)]
  obtain ⟨heap, tape, drawn, os, output⟩ := W
  obtain ⟨⟨h1, h2, h3, _, _⟩, h4⟩ := h
  dsimp only at h1 h2 h3 h4 hh
  subst h1 h2 h3
  unfold grow World.drewN
  congr 1
  show drawn = w.drawn + (drawn - w.drawn)
  have h5 : w.drawn ≤ drawn := h4
  omega
theorem below_grownW {B : Nat} {w W : World} (h : Below B w W) (hB : B ≤ W.heap.size) (n : Nat) (os : Array Obj) : Below B w (grow (W.drewN n) os) :=
  ⟨h.os, h.tape, h.output, Nat.le_trans h.size (by rw [size_grow]; exact Nat.le_add_right _ _), fun k hk => by
    show (W.heap ++ os)[k]? = _
    rw [Array.getElem?_append_left (by omega)]
    exact h.block k hk⟩
theorem grownBy_growW {w W : World} {row : Option Nat} (h : w.grownBy W row) (n : Nat) (os : Array Obj) : w.grownBy (grow (W.drewN n) os) row :=
  ⟨h.os, h.tape, h.output, Nat.le_trans h.size (by rw [size_grow]; exact Nat.le_add_right _ _), fun k hk hne => by
    show (W.heap ++ os)[k]? = _
    rw [Array.getElem?_append_left (by have := h.size; omega)]
    exact h.block k hk hne⟩
theorem grownBy_of_below {w W : World} (h : Below w.heap.size w W) (row : Option Nat) : w.grownBy W row := ⟨h.os, h.tape, h.output, h.size, fun k hk _ => h.block k hk⟩
theorem grownBy_on {a b c : World} {row : Option Nat} (h : a.grownBy b row) (k : b.grownBy c row) : a.grownBy c row :=
  ⟨k.os.trans h.os, k.tape.trans h.tape, k.output.trans h.output, Nat.le_trans h.size k.size, fun i hi hne => (k.block i (Nat.lt_of_lt_of_le hi h.size) hne).trans (h.block i hi hne)⟩
theorem below_of_grownBy {B g : Nat} {w0 w W : World} (h : Below B w0 w) (hB : B ≤ w.heap.size) (hg : B ≤ g) (k : w.grownBy W (some g)) : Below B w0 W :=
  ⟨k.os.trans h.os, k.tape.trans h.tape, k.output.trans h.output, Nat.le_trans h.size k.size, fun i hi => (k.block i (by omega) (by intro e; injection e with e; omega)).trans (h.block i hi)⟩
theorem row_put {W : World} {base g n cap : Nat} {ok : Nat → Prop} {xs : List V} (h : Kd.R k25 25 W base ok (.slice (some ⟨g, 0, none⟩) n cap) xs) (i : Nat) (hi : i < n) (x : V) :
    Kd.R k25 25 (W.setCells g (i * 3) (encV x)) base ok (.slice (some ⟨g, 0, none⟩) n cap) (xs.set i x) ∧ W.grownBy (W.setCells g (i * 3) (encV x)) (some g) := by
  obtain ⟨c, hc1, hc2, hc3, _⟩ := Kd.R_elem h ⟨0, 0, ⟨#[]⟩⟩ (i : Int) (by omega) (by omega)
  have hc1' : c.length = 3 := hc1
  have h2 := Kd.R_seg (okp := fun k => ok k ∧ k ≠ g) h (i : Int) (by omega) (by omega) (c := c) (seg := encV x) (j := 0) hc1 hc3 (by show 0 + 3 ≤ 3; omega) (x' := x) (by
    rw [List.take_zero, List.nil_append, List.drop_of_length_le (by rw [hc1']; show 3 ≤ 0 + 3; omega), List.append_nil]
    exact k25_mkM W base _ x) (fun _ hk => hk)
  have e1 : (i : Int).toNat * k25.sz + 0 = i * 3 := by rw [Int.toNat_natCast]; rfl
  rw [e1, Int.toNat_natCast] at h2
  exact h2
theorem setCells_block : ∀ (vs : List Value) (W : World) (g o e : Nat) (cur : Array Value), W.heap[g]? = some (.cells cur e (0, 0)) →
    ∃ cur' : Array Value, (W.setCells g o vs).heap[g]? = some (.cells cur' e (0, 0)) ∧ cur'.size = cur.size ∧ (∀ j, j < o → cur'[j]? = cur[j]?) ∧ W.grownBy (W.setCells g o vs) (some g)
  | [], W, g, o, e, cur, h => ⟨cur, h, rfl, fun _ _ => rfl, grownBy_of_below (Below.refl _ _) _⟩
  | v :: r, W, g, o, e, cur, h => by
    obtain ⟨cur', h1, h2, h3, h4⟩ := setCells_block r (W.setCell ⟨g, o, none⟩ v) g (o + 1) e (cur.setIfInBounds o v) (blk_set h o v)
    refine ⟨cur', h1, by rw [h2]; simp, fun j hj => ?_, ?_⟩
    · rw [h3 j (by omega), Array.getElem?_setIfInBounds, if_neg (by omega)]
    · have h5 : W.grownBy (W.setCell ⟨g, o, none⟩ v) (some g) := ⟨rfl, rfl, rfl, by simp [World.setCell], fun k _ hne => ?_⟩
      · exact grownBy_on h5 h4
      exact Below.heap_setCell W ⟨g, o, none⟩ v k (fun e => hne (by rw [e]))
theorem row_cut {W : World} {base g n cap : Nat} {ok : Nat → Prop} {xs : List V} (h : Kd.R k25 25 W base ok (.slice (some ⟨g, 0, none⟩) n cap) xs) (k : Nat) (hk : k ≤ xs.length) (vs : List Value) :
    Kd.R k25 25 (W.setCells g (k * 3) vs) base ok (.slice (some ⟨g, 0, none⟩) k cap) (xs.take k) ∧ W.grownBy (W.setCells g (k * 3) vs) (some g) := by
  obtain ⟨h0, inner, ho, hr⟩ := h
  rcases ho with ⟨h1, ⟨he, _⟩ | ⟨g', cap', cur, he, hb, hh, h2, h3, hs, ht⟩⟩
  · cases he
  · injection he with he1 he2 he3
    injection he1 with he1
    injection he1 with he1
    subst he1 he3
    obtain ⟨cur', g1, g2, g3, g4⟩ := setCells_block vs W g (k * 3) _ cur hh
    have hl : (xs.take k).length = k := by rw [List.length_take]; omega
    refine ⟨⟨h0, (xs.take k).flatMap encV, ⟨by rw [flat_length]; rfl, .inr ⟨g, cap, cur', by rw [hl], hb, g1, by rw [hl]; omega, h3, by rw [g2]; exact hs, ?_⟩⟩, flat_reps _ _ _ _⟩, g4⟩
    show List.take ((xs.take k).length * 3) cur'.toList = _
    rw [hl]
    have ht' : List.take (xs.length * 3) cur.toList = inner := ht
    refine List.ext_getElem? fun j => ?_
    by_cases hj : j < k * 3
    · rw [List.getElem?_take_of_lt hj, Array.getElem?_toList, g3 j hj, flat_get _ j (by rw [hl]; exact hj)]
      have h5 := flat_get xs j (by omega)
      rw [← reps_flat hr, ← ht', List.getElem?_take_of_lt (by omega), Array.getElem?_toList] at h5
      rw [h5]
      have hq : j / 3 < k := by omega
      have e1 : (xs.take k).toArray[j / 3]! = xs.toArray[j / 3]! := by
        have a1 : j / 3 < (xs.take k).length := by rw [hl]; exact hq
        have a2 : j / 3 < xs.length := by omega
        simp [a2, hq]
      rw [e1]
    · rw [List.getElem?_eq_none (by rw [List.length_take]; omega), List.getElem?_eq_none (by rw [flat_length, hl]; omega)]
theorem run_clear_V {W : World} (ty : TypeId) (g o n c : Nat) (hn : 0 < n) (hc : ∀ j, j < n * 3 → (W.cell? ⟨g, o + j, none⟩).isSome = true) (hf : ∀ j, j < n * 3 → W.frozen? ⟨g, o + j, none⟩ = false) :
    (Builtin.clear_ #[22] ty #[.slice (some ⟨g, o, none⟩) n c]).run Tryz.prog W = .ok (.tuple #[]) (W.setCells g o (Builtin.zeroCells #[.int .i64 0, .int .i64 0, .string ⟨#[]⟩] n).toList) := by
  have hl : (Builtin.zeroCells #[.int .i64 0, .int .i64 0, .string ⟨#[]⟩] n).toList.length = n * 3 := by simp [Builtin.zeroCells]
  have hst := run_storeCells_cells (P := Tryz.prog) g o (Builtin.zeroCells #[.int .i64 0, .int .i64 0, .string ⟨#[]⟩] n).toList 0 W (by rw [hl]; simpa using hc) (by rw [hl]; simpa using hf) (by
    intro v hv
    simp only [Builtin.zeroCells, Array.toList_map, List.mem_map] at hv
    obtain ⟨i, _, rfl⟩ := hv
    have : i % 3 = 0 ∨ i % 3 = 1 ∨ i % 3 = 2 := by omega
    show (#[Value.int .i64 0, .int .i64 0, .string ⟨#[]⟩][i % 3]!).oneCell' = true
    rcases this with e | e | e <;> rw [e] <;> rfl)
  simp only [Nat.add_zero] at hst
  obtain ⟨m, rfl⟩ : ∃ m, n = m + 1 := ⟨n - 1, by omega⟩
  have hz : ∀ w, (zeroValue 25).run Tryz.prog w = .ok (.agg #[.int .i64 0, .int .i64 0, .string ⟨#[]⟩]) w := Tryz.zeroValue25
  simp [Builtin.clear_, run_underlying Tryz.underlying22, hz, Value.cells, hst]
/-- a zeroed box of a value, laid since W0 -/
def Bz (W0 w : World) (s : Nat) : Prop := W0.heap.size ≤ s ∧ w.heap[s]? = some (.cells #[.int .i64 0, .int .i64 0, .string (⟨#[]⟩ : ByteArray)] 25 (0, 0))
theorem Bz.on {W0 w w1 : World} {s : Nat} (h : Bz W0 w s) (hb : Below w.heap.size w w1) : Bz W0 w1 s := ⟨h.1, blk_below h.2 hb⟩
theorem Bz.new {W0 w w1 : World} {g : Nat} (hs : W0.heap.size ≤ w.heap.size) (hg : g = w.heap.size) (hbox : w1.heap[g]? = some (.cells #[.int .i64 0, .int .i64 0, .string (⟨#[]⟩ : ByteArray)] 25 (0, 0))) : Bz W0 w1 g := ⟨hg ▸ hs, hbox⟩
theorem Bz.ne {W0 w : World} {s g : Nat} (h : Bz W0 w s) (hg : g = w.heap.size) : s ≠ g := by
  rw [hg]
  exact Nat.ne_of_lt (blk_lt h.2)
section
variable {P : Program} {ops : Array Oper} {rest : List Oper} {o : Oper} {a : Act} {Q : Exit → Act → World → Prop} {Kc : Act → World → Prop}
theorem blk_belowD {w w1 : World} {g : Nat} {o : Obj} (h : w.heap[g]? = some o) (hb : BelowD w.heap.size w w1) : w1.heap[g]? = some o := blk_below h hb.b
theorem box_eventD {W : World} (hgd : o.guard = none) {N : Tmp} (_hd : o.dst = some N) {cs : Array Value} {t : TypeId}
    (hrun : (execOp a.eval o).run P W = .ok (.value (.pointer (some ⟨W.heap.size, 0, none⟩))) (W.alloc (.cells cs t (0, 0))))
    (h : ∀ g, g = W.heap.size → ∀ w1, w1.heap[g]? = some (.cells cs t (0, 0)) → BelowD W.heap.size W w1 → wpList P ops Q rest (a.put o.dst (.pointer (some ⟨g, 0, none⟩))) w1) : wpList P ops Q (o :: rest) a W :=
  Kd.event_run hgd hrun (h _ rfl _ (blk_new W _) (dA (BelowD.refl _ _) _))
theorem litD {α : Type} (d : Kd α) {W : World} (base e : Nat) (hw : Region.wanted o (yielded ops a.tmps) = true) {N : Tmp} (_hd : o.dst = some N) {xs : List α} {inner : List Value} {ok okp : Nat → Prop}
    (hrun : (execOp a.eval o).run P W = .ok (.value (.slice (some ⟨W.heap.size, 0, none⟩) xs.length xs.length)) (W.alloc (.cells inner.toArray e)))
    (hrep : Reps (d.M W base okp) d.sz xs inner) (hok : ∀ k, okp k → ok k) (hfresh : ok W.heap.size) (HB : BelowD W.heap.size W W) (hbase : base ≤ W.heap.size) (hm : xs.length ≤ 9223372036854775807)
    (h : ∀ v1 w1, d.R e w1 base ok v1 xs → BelowD W.heap.size W w1 → W.grownBy w1 none → (∃ b, v1.ownBlock = some b ∧ W.heap.size ≤ b) → Kc (a.put o.dst v1) w1) : if Region.wanted o (yielded ops a.tmps) = true then Oper.wp P o a W Kc Q else Kc (a.put o.dst undef) W := by
  refine event_step hw hrun (h _ _ ⟨fun k hk => ?_, inner, ?_, ?_⟩ (dA HB _) (World.grownBy_alloc W _ none) ⟨W.heap.size, by simp [Value.ownBlock], Nat.le_refl _⟩)
  · have : W.heap.size = k := by simpa [Value.ownBlock] using hk
    subst this
    exact hfresh
  · have h2 := World.ownsRow_lit (base := base) (e := e) (size := d.sz) W inner.toArray xs.length hbase (by simpa [maxLen] using hm) (by simpa using hrep.1)
    simpa using h2
  · refine hrep.imp_ (fun p c hp => d.M_mono (fun k hk => ⟨hok k hk.1, fun he => ?_⟩) (Kd.M_below (d.M_bound hp) (below_alloc (Below.refl _ _) _)))
    have h3 : k = W.heap.size := by simpa [Value.ownBlock] using he
    have := hk.2.2.1
    omega
end
end Go.Proofs.YtinhpbmoiamepaaGreatDoor
