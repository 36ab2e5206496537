/- Lemmas for the claim: contracts of functions and facts about what they compute, part 3 (texts put together, and cut down to what is used, by a program of ours). -/
import Derived.Shelf.SlSortCmp.Whole1
import Derived.Shelf.SlSortCmp.NoneTotal
import Derived.Test.YtmhobbdedmjmnaaGreatDoorMOwn1
section
/- Each function reached is shown to return what the plain function beside it computes, wherever that is defined (written by a program of ours for this seat). -/
namespace Go.Proofs.YtmhobbdedmjmnaaGreatDoor.Q
open Go.RowKit Go.Proofs.YtmhobbdedmjmnaaGreatDoorW.PrintWords Go.Proofs.YtmhobbdedmjmnaaGreatDoorW.PrintLast Go.Proofs.YtmhobbdedmjmnaaGreatDoorW.PrintMore
attribute [local go_sem] max2_int min2_int max_two min_two max_three min_three max_four min_four   -- for this text's walks alone
set_option linter.unusedVariables false
set_option linter.unusedSimpArgs false
theorem small1_pred (A : Option Addr) (c : Nat) (x : List V) (W : World) (hc : x.length ≤ c) (hC : Kd.C k61 W A x.length x) : Calls Tryz.prog 86 (#[.slice A x.length c] ++ #[]) W fun e w' => e = .returned (.bool (decide (16 < x.length))) ∧ Below W.heap.size W w' :=
  (rows_small_1.calls A c x (decide (16 < x.length)) W hC hc (by
    unfold rows_small_1.f
    refine congrArg some (decide_eq_decide.2 ?_)
    omega)).mono fun e w' ⟨he, hd⟩ => ⟨he, by
      obtain ⟨n, rfl⟩ := hd.out
      exact yN (Below.refl _ _) n⟩
theorem small2_pred (x : V) (W : World) : Calls Tryz.prog 88 (#[.agg #[.int .i64 x.f0, .int .i64 x.f1, .string x.f2]] ++ #[]) W fun e w' => e = .returned (.bool (!isV x)) ∧ Below W.heap.size W w' :=
  rows_small_2.calls x.f0 x.f1 x.f2 (!isV x) W (by simp [rows_small_2.f, value_Is_s.f, isV])
def rows_small.f (l0 : List (List (List V))) : Option Int := some (smallE l0)
theorem any_pos {α : Type} {p : α → Bool} {l : List α} {x : α} (h : x ∈ l) (hp : p x = true) : l.any p = true := List.any_eq_true.2 ⟨x, h, hp⟩
theorem any_none {α : Type} {p : α → Bool} {l : List α} (h : ∀ j (hj : j < l.length), p l[j] = false) : l.any p = false := by
  rw [List.any_eq_false]
  intro x hx
  obtain ⟨j, hj, rfl⟩ := List.getElem_of_mem hx
  rw [h j hj]
  decide
set_option maxRecDepth 100000 in
set_option maxHeartbeats 2000000 in
theorem rows_small.calls (A0 : Option Addr) (c0 : Nat) (l0 : List (List (List V))) (r : Int) (w : World) (hr0 : Kd.C (Kd.slice 40 (Kd.slice 61 k61)) w A0 l0.length l0) (_hc0 : l0.length ≤ c0) (h : rows_small.f l0 = some r) :
    Calls Tryz.prog 52 #[.slice A0 l0.length c0] w fun e w' => e = .returned (.int .i64 r) ∧ Below w.heap.size w w' := by
  obtain rfl := Option.some.inj h
  clear h
  have eg1 : ∀ args w, (callFunc 86 args).run Tryz.prog w = .ok (.enter 86 args) w := enters_of Tryz.func86 (by kernel_rfl) rfl
  have eg2 : ∀ args w, (callFunc 88 args).run Tryz.prog w = .ok (.enter 88 args) w := enters_of Tryz.func88 (by kernel_rfl) rfl
  have EG1 := Aside0.mk eg1
  have EG2 := Aside0.mk eg2
  have HR0 := Aside0.mk hr0
  clear hr0 eg1 eg2
  have HB := Aside0.mk (Below.refl w.heap.size w)
  obtain ⟨n, hn⟩ : ∃ n, n = l0.length := ⟨_, rfl⟩
  rw [← hn]
  have hle : n ≤ 9223372036854775807 := by rw [hn]; exact HR0.out.2.1
  have HN := Aside0.mk hn
  clear hn
  go_enter Tryz.func52, Tryz.ntmps52
  go_wp2
  go_loopg [4, 11] n (fun gg _ s11 wr => ∃ kk : Nat, kk ≤ n ∧ n - kk ≤ gg ∧ s11 = .int .i64 kk ∧ Aside0 (Below w.heap.size w wr) ∧ Aside0 (∀ j (hj : j < kk) (hj2 : j < l0.length), largeR l0[j] = false))
  case atStart => exact ⟨0, Nat.zero_le _, by omega, rfl, HB, ⟨fun j hj => absurd hj (Nat.not_lt_zero _)⟩⟩
  case round =>
    clear HB
    obtain ⟨kk, hkk, hg, rfl, HB, HA⟩ := hrel
    by_cases hlt : kk < n
    · have hltz : (kk : Int) < (n : Int) := by omega
      have hlt' : kk < l0.length := by have := HN.out; omega
      obtain ⟨ad, e1, hcs⟩ := HR0.out.2.2 (by omega)
      cases e1
      obtain ⟨cs, hcs1, ⟨A1, c1, rfl, hle1, hC1⟩, hcs3⟩ := hcs kk l0[kk] (List.getElem?_eq_getElem hlt')
      have hx0 : w.cell? (ad.add kk) = some (.slice A1 l0[kk].length c1) := by
        have h9 := hcs3 0 _ rfl
        rw [show kk * (Kd.slice 40 (Kd.slice 61 k61)).sz + 0 = kk from Nat.mul_one kk] at h9
        exact h9
      replace hx0 := (HB.out.cell (World.block_lt_of_cell? w _ hx0)).trans hx0
      have hy : l0[kk]? = some l0[kk] := List.getElem?_eq_getElem hlt'
      have HC1 := Aside0.mk (Kd.C_below hC1 HB.out)
      clear hcs3 hcs1 hC1 hle1
      generalize l0[kk] = y at hx0 HC1 hy
      by_cases hbig : 20000 < y.length
      · have hb1 : (20000 : Int) < (y.length : Int) := by omega
        have hb2 : decide ((20000 : Int) < (y.length : Int)) = true := decide_eq_true hb1
        have HE : Aside0 (smallE l0 = 2) := ⟨by
          unfold smallE
          rw [if_pos (any_pos (x := y) (List.mem_of_getElem? hy) (by unfold largeR; rw [decide_eq_true hbig]; rfl))]⟩
        clear hy hlt' HC1
        generalize y.length = ylen at hx0 hb1 hb2 hbig
        go_wp2
        go_ret
        exact ⟨by rw [HE.out]; rfl, HB.out⟩
      · have hb1 : ¬ (20000 : Int) < (y.length : Int) := by omega
        have hb2 : decide ((20000 : Int) < (y.length : Int)) = false := decide_eq_false hb1
        have hcall := contFuncR.calls (fun r => decide (16 < r.length)) 86 #[] EG1.out A1 c1 y wr HC1.out (by omega) (fun x _ A c W hc hC _ => small1_pred A c x W hc hC)
        have HY := Aside0.mk hy
        have HBG := Aside0.mk hbig
        clear hy hlt' hbig HC1
        cases hq : y.any (fun r => decide (16 < r.length)) with
        | true =>
          rw [hq] at hcall
          have HC := Aside0.mk hcall
          have HE : Aside0 (smallE l0 = 2) := ⟨by
            unfold smallE
            rw [if_pos (any_pos (x := y) (List.mem_of_getElem? HY.out) (by unfold largeR; rw [hq, Bool.or_true]))]⟩
          clear hcall hq HBG
          generalize y.length = ylen at hx0 hb1 hb2 HC
          go_wp2_with (go_at_call 68; refine HC.out.mono ?_; rintro e w' ⟨rfl, hb'⟩)
          go_ret
          exact ⟨by rw [HE.out]; rfl, HB.out.trans (hb'.mono HB.out.size)⟩
        | false =>
          rw [hq] at hcall
          have HC := Aside0.mk hcall
          have HQ : Aside0 (largeR y = false) := ⟨by unfold largeR; rw [hq, decide_eq_false HBG.out]; rfl⟩
          clear hcall hq HBG
          generalize y.length = ylen at hx0 hb1 hb2 HC
          go_wp2_with (go_at_call 68; refine HC.out.mono ?_; rintro e w' ⟨rfl, hb'⟩)
          go_roundg (n - (kk + 1))
          case measure => omega
          case rel =>
            refine ⟨kk + 1, by omega, by omega, by go_num, ⟨HB.out.trans (hb'.mono HB.out.size)⟩, ⟨fun j hj hj2 => ?_⟩⟩
            by_cases e : j = kk
            · subst e
              rw [(List.getElem?_eq_some_iff.1 HY.out).2]; exact HQ.out
            · exact HA.out j (by omega) hj2
    · have hltz : decide (kk < n) = false := by simpa using hlt
      have HL : Aside0 (∀ j (hj : j < l0.length), largeR l0[j] = false) := ⟨fun j hj => HA.out j (by have := HN.out; omega) hj⟩
      clear hlt HA
      go_wp2
      go_loopg [6, 25] n (fun gg _ s25 wr => ∃ kk : Nat, kk ≤ n ∧ n - kk ≤ gg ∧ s25 = .int .i64 kk ∧ Aside0 (Below w.heap.size w wr) ∧ Aside0 (∀ j (hj : j < kk) (hj2 : j < l0.length), wrongR l0[j] = false))
      case atStart => exact ⟨0, Nat.zero_le _, by omega, rfl, HB, ⟨fun j hj => absurd hj (Nat.not_lt_zero _)⟩⟩
      case round =>
        clear HB
        obtain ⟨kk, hkk, hg, rfl, HB, HA⟩ := hrel
        by_cases hlt : kk < n
        · have hltz : (kk : Int) < (n : Int) := by omega
          have hlt' : kk < l0.length := by have := HN.out; omega
          obtain ⟨ad, e1, hcs⟩ := HR0.out.2.2 (by omega)
          cases e1
          obtain ⟨cs, hcs1, ⟨A1, c1, rfl, hle1, hC1⟩, hcs3⟩ := hcs kk l0[kk] (List.getElem?_eq_getElem hlt')
          have hx0 : w.cell? (ad.add kk) = some (.slice A1 l0[kk].length c1) := by
            have h9 := hcs3 0 _ rfl
            rw [show kk * (Kd.slice 40 (Kd.slice 61 k61)).sz + 0 = kk from Nat.mul_one kk] at h9
            exact h9
          replace hx0 := (HB.out.cell (World.block_lt_of_cell? w _ hx0)).trans hx0
          have hy : l0[kk]? = some l0[kk] := List.getElem?_eq_getElem hlt'
          have hnl := HL.out kk hlt'
          have HC1 := Aside0.mk hC1
          clear hcs3 hcs1 hC1 hle1
          generalize l0[kk] = y at hx0 HC1 hy hnl
          have HY := Aside0.mk hy
          have hsm : y.length ≤ 20000 ∧ ∀ r ∈ y, r.length ≤ 16 := by
            unfold largeR at hnl
            rw [Bool.or_eq_false_iff] at hnl
            refine ⟨by have := of_decide_eq_false hnl.1; omega, fun r hr => ?_⟩
            have := (List.any_eq_false.1 hnl.2) r hr
            simp only [decide_eq_true_eq] at this
            omega
          have HSM := Aside0.mk hsm
          clear hy hnl hsm hlt'
          obtain ⟨m, hm⟩ : ∃ m, m = y.length := ⟨_, rfl⟩
          rw [← hm] at hx0
          have hmle : m ≤ 20000 := by rw [hm]; exact HSM.out.1
          have HM := Aside0.mk hm
          clear hm
          go_wp2
          go_loopg [8, 31] m (fun gg _ s31 wr => ∃ jj : Nat, jj ≤ m ∧ m - jj ≤ gg ∧ s31 = .int .i64 jj ∧ Aside0 (Below w.heap.size w wr) ∧ Aside0 (∀ j (hj : j < jj) (hj2 : j < y.length), (y[j].any fun v => !isV v) = false))
          case atStart => exact ⟨0, Nat.zero_le _, by omega, rfl, HB, ⟨fun j hj => absurd hj (Nat.not_lt_zero _)⟩⟩
          case round =>
            clear HB hx0
            obtain ⟨jj, hjj, hg2, rfl, HB, HA2⟩ := hrel
            by_cases hlt2 : jj < m
            · have hltz2 : (jj : Int) < (m : Int) := by omega
              have hlt2' : jj < y.length := by have := HM.out; omega
              obtain ⟨bd, e2, hds⟩ := HC1.out.2.2 (by omega)
              cases e2
              obtain ⟨ds, hds1, ⟨A2, c2, rfl, hle2, hC2⟩, hds3⟩ := hds jj y[jj] (List.getElem?_eq_getElem hlt2')
              have hx0 : w.cell? (bd.add jj) = some (.slice A2 y[jj].length c2) := by
                have h9 := hds3 0 _ rfl
                rw [show jj * (Kd.slice 61 k61).sz + 0 = jj from Nat.mul_one jj] at h9
                exact h9
              replace hx0 := (HB.out.cell (World.block_lt_of_cell? w _ hx0)).trans hx0
              have hz : y[jj]? = some y[jj] := List.getElem?_eq_getElem hlt2'
              have hcall := contFuncV.calls (fun v => !isV v) 88 #[] EG2.out A2 c2 y[jj] wr (Kd.C_below hC2 HB.out) (by have := HSM.out.2 _ (List.getElem_mem hlt2'); omega) (fun x _ W _ => small2_pred x W)
              clear hds3 hds1 hC2 hle2
              generalize y[jj] = z at hx0 hcall hz
              generalize z.length = zlen at hx0 hcall
              have HZ := Aside0.mk hz
              clear hz hlt2'
              cases hq : z.any (fun v => !isV v) with
              | true =>
                rw [hq] at hcall
                have HC := Aside0.mk hcall
                have HE : Aside0 (smallE l0 = 10) := ⟨by
                  unfold smallE
                  rw [if_neg (by rw [any_none HL.out]; decide), if_pos (any_pos (x := y) (List.mem_of_getElem? HY.out) (any_pos (x := z) (List.mem_of_getElem? HZ.out) hq))]⟩
                clear hcall hq
                go_wp2_with (go_at_call 87; refine HC.out.mono ?_; rintro e w' ⟨rfl, hb'⟩)
                go_ret
                exact ⟨by rw [HE.out]; rfl, HB.out.trans (hb'.mono HB.out.size)⟩
              | false =>
                rw [hq] at hcall
                have HC := Aside0.mk hcall
                have HQ := Aside0.mk hq
                clear hcall hq
                go_wp2_with (go_at_call 87; refine HC.out.mono ?_; rintro e w' ⟨rfl, hb'⟩)
                go_roundg (m - (jj + 1))
                case measure => omega
                case rel =>
                  refine ⟨jj + 1, by omega, by omega, by go_num, ⟨HB.out.trans (hb'.mono HB.out.size)⟩, ⟨fun j hj hj2 => ?_⟩⟩
                  by_cases e : j = jj
                  · subst e
                    rw [(List.getElem?_eq_some_iff.1 HZ.out).2]; exact HQ.out
                  · exact HA2.out j (by omega) hj2
            · have hltz2 : decide (jj < m) = false := by simpa using hlt2
              have HQ : Aside0 (wrongR y = false) := ⟨any_none fun j hj => HA2.out j (by have := HM.out; omega) hj⟩
              clear hlt2 HA2
              go_wp2
              go_roundg (n - (kk + 1))
              case measure => omega
              case rel =>
                refine ⟨kk + 1, by omega, by omega, by go_num, HB, ⟨fun j hj hj2 => ?_⟩⟩
                by_cases e : j = kk
                · subst e
                  rw [(List.getElem?_eq_some_iff.1 HY.out).2]; exact HQ.out
                · exact HA.out j (by omega) hj2
        · have hltz : decide (kk < n) = false := by simpa using hlt
          have HE : Aside0 (smallE l0 = 0) := ⟨by
            unfold smallE
            rw [if_neg (by rw [any_none HL.out]; decide), if_neg (by rw [any_none fun j hj => HA.out j (by have := HN.out; omega) hj]; decide)]⟩
          clear hlt HA
          go_wp2
          go_ret
          exact ⟨by rw [HE.out]; rfl, HB.out⟩
def strconv_FormatInt.f (a0 : Int) (a1 : Int) : Option (ByteArray) := if inI64 a0 = true then (if a1 = 10 then some (ofL (Lib.itoa a0)) else none) else none
theorem strconv_FormatInt.calls (a0 : Int) (a1 : Int) (r : ByteArray) (w : World) (hL_ : Laid w) (h : strconv_FormatInt.f a0 a1 = some r) :
    Calls Tryz.prog 148 #[.int .i64 a0, .int .i64 a1] w fun e w' => e = .returned (.string r) ∧ Below w.heap.size w w' := by
  unfold strconv_FormatInt.f at h
  by_cases h0 : inI64 a0 = true
  · rw [if_pos h0] at h
    by_cases h1 : a1 = 10
    · rw [if_pos h1] at h
      obtain rfl := Option.some.inj h
      subst h1
      obtain ⟨b0, b1⟩ := inI64_bd h0
      refine (Tryz.strconv_FormatInt_10 a0 b0 b1 w hL_.pow).mono ?_
      rintro e w' ⟨rfl, k, os, rfl⟩
      exact ⟨rfl, Lib.below_grow _ w (Nat.le_refl _) k os⟩
    · rw [if_neg h1] at h; cases h
  · rw [if_neg h0] at h; cases h
def strings_ReplaceAll.f (a0 : ByteArray) (a1 : ByteArray) (a2 : ByteArray) : Option (ByteArray) := if a0.size < 4294967281 ∧ 1 ≤ a1.size ∧ a0.size + Lib.countB a0 a1 * a2.size ≤ 140737488355328 then some (ofL (Lib.replaceAll a0.data.toList a1.data.toList a2.data.toList)) else none
theorem strings_ReplaceAll.calls (a0 : ByteArray) (a1 : ByteArray) (a2 : ByteArray) (r : ByteArray) (w : World) (hL_ : Laid w) (h : strings_ReplaceAll.f a0 a1 a2 = some r) :
    Calls Tryz.prog 149 #[.string a0, .string a1, .string a2] w fun e w' => e = .returned (.string r) ∧ Below w.heap.size w w' := by
  unfold strings_ReplaceAll.f at h
  by_cases h0 : a0.size < 4294967281 ∧ 1 ≤ a1.size ∧ a0.size + Lib.countB a0 a1 * a2.size ≤ 140737488355328
  · rw [if_pos h0] at h
    obtain rfl := Option.some.inj h
    obtain ⟨m, hm⟩ := hL_.most
    exact (Tryz.strings_ReplaceAll a0 a1 a2 m w h0.1 hm h0.2.1 h0.2.2)
  · rw [if_neg h0] at h; cases h
def value_Written.f (a0_0 : Int) (a0_1 : Int) (a0_2 : ByteArray) : Option (ByteArray) := if okV a0_0 a0_1 a0_2 = true then some (writ a0_0 a0_1 a0_2) else none
theorem replace_dbl (s : ByteArray) (hs : s.size ≤ 200) : strings_ReplaceAll.f s ⟨#[39]⟩ ⟨#[39, 39]⟩ = some (ofL (dbl s.data.toList)) := by
  unfold strings_ReplaceAll.f
  have hc := countB_le s ⟨#[39]⟩ (by decide)
  have h1 : (⟨#[39]⟩ : ByteArray).size = 1 := rfl
  have h2 : (⟨#[39, 39]⟩ : ByteArray).size = 2 := rfl
  rw [if_pos ⟨by omega, by omega, by rw [h2]; omega⟩, show (⟨#[39]⟩ : ByteArray).data.toList = [39] from rfl, show (⟨#[39, 39]⟩ : ByteArray).data.toList = [39, 39] from rfl, replaceAll_dbl]
set_option maxHeartbeats 1000000 in
theorem value_Written.calls (a0_0 : Int) (a0_1 : Int) (a0_2 : ByteArray) (r : ByteArray) (w : World) (hL_ : Laid w) (h : value_Written.f a0_0 a0_1 a0_2 = some r) :
    Calls Tryz.prog 117 #[.agg #[.int .i64 a0_0, .int .i64 a0_1, .string a0_2]] w fun e w' => e = .returned (.string r) ∧ Below w.heap.size w w' := by
  unfold value_Written.f at h
  by_cases hok : okV a0_0 a0_1 a0_2 = true
  case neg => rw [if_neg hok] at h; cases h
  rw [if_pos hok] at h
  obtain rfl := Option.some.inj h
  clear h
  have hu61 := Tryz.underlying61
  have HLD := Aside0.mk hL_
  clear hL_
  rcases okV_cases hok with ⟨rfl, rfl, rfl⟩ | ⟨rfl, hi, rfl⟩ | ⟨rfl, rfl | rfl, rfl⟩ | ⟨rfl, rfl, hs, hp⟩
  · clear hok HLD
    go_enter Tryz.func117, Tryz.ntmps117
    go_wp2
    go_ret
    exact ⟨rfl, ((Below.refl _ _).alloc (Nat.le_refl _) _).alloc (by simp) _⟩
  · have hw := writ_int a0_1 (s := ⟨#[]⟩)
    rw [hw]
    clear hok hw
    have hc := fun W hL => strconv_FormatInt.calls a0_1 10 _ W hL (show strconv_FormatInt.f a0_1 10 = some (ofL (Lib.itoa a0_1)) by unfold strconv_FormatInt.f; rw [if_pos hi, if_pos rfl])
    have HC := Aside0.mk hc
    clear hc hi
    generalize ofL (Lib.itoa a0_1) = r at HC ⊢
    go_enter Tryz.func117, Tryz.ntmps117
    go_wp2_with (go_at_call 148; refine (HC.out _ (HLD.out.below (((Below.refl _ _).alloc (Nat.le_refl _) _).alloc (by simp) _))).mono ?_; rintro e w' ⟨rfl, hb⟩)
    go_ret
    exact ⟨rfl, (((Below.refl _ _).alloc (Nat.le_refl _) _).alloc (by simp) _).trans (hb.mono (by simp; omega))⟩
  · clear hok HLD
    go_enter Tryz.func117, Tryz.ntmps117
    go_wp2
    go_ret
    exact ⟨rfl, ((Below.refl _ _).alloc (Nat.le_refl _) _).alloc (by simp) _⟩
  · clear hok HLD
    go_enter Tryz.func117, Tryz.ntmps117
    go_wp2
    go_ret
    exact ⟨rfl, ((Below.refl _ _).alloc (Nat.le_refl _) _).alloc (by simp) _⟩
  · have hw : writ 3 0 a0_2 = (⟨#[39]⟩ : ByteArray) ++ ofL (dbl a0_2.data.toList) ++ (⟨#[39]⟩ : ByteArray) := writ_text a0_2
    rw [hw]
    clear hok hw
    have hs2 := dbl_size a0_2 hs
    have hc := fun W hL => strings_ReplaceAll.calls a0_2 ⟨#[39]⟩ ⟨#[39, 39]⟩ _ W hL (replace_dbl a0_2 hs)
    have HC := Aside0.mk hc
    clear hc hs hp
    generalize ofL (dbl a0_2.data.toList) = r at HC hs2 ⊢
    have h1 : 1 + r.size ≤ 9223372036854775807 := by omega
    have h2 : 1 + r.size + 1 ≤ 9223372036854775807 := by omega
    have h3 : ((⟨#[39]⟩ : ByteArray) ++ r).size + 1 ≤ 9223372036854775807 := by rw [ByteArray.size_append]; exact h2
    clear hs2
    go_enter Tryz.func117, Tryz.ntmps117
    go_wp2_with (go_at_call 149; refine (HC.out _ (HLD.out.below (((Below.refl _ _).alloc (Nat.le_refl _) _).alloc (by simp) _))).mono ?_; rintro e w' ⟨rfl, hb⟩)
    go_ret
    exact ⟨rfl, (((Below.refl _ _).alloc (Nat.le_refl _) _).alloc (by simp) _).trans (hb.mono (by simp; omega))⟩
def rows_Name.f (l0 : List V) : Option ByteArray := if okRow l0 = true then some (ofL (nameL l0)) else none
set_option maxRecDepth 100000 in
set_option maxHeartbeats 2000000 in
theorem rows_Name.calls (A0 : Option Addr) (c0 : Nat) (l0 : List V) (r : ByteArray) (w : World) (hL_ : Laid w) (hr0 : Kd.C k61 w A0 l0.length l0) (_hc0 : l0.length ≤ c0) (h : rows_Name.f l0 = some r) :
  Calls Tryz.prog 92 #[.slice A0 l0.length c0] w fun e w' => e = .returned (.string r) ∧ Below w.heap.size w w' := by
 unfold rows_Name.f at h
 by_cases hs : okRow l0 = true
 case neg => rw [if_neg hs] at h; cases h
 rw [if_pos hs] at h
 obtain rfl := Option.some.inj h
 have hu61 := Tryz.underlying61
 have HLD := Aside0.mk hL_
 have HR0 := Aside0.mk hr0
 have HS := Aside0.mk (okRow_spec hs)
 clear h hs hL_ hr0
 obtain ⟨n, hn⟩ : ∃ n, n = l0.length := ⟨_, rfl⟩
 rw [← hn]
 have hle : n ≤ 1000 := by have := HS.out.1; omega
 have HN := Aside0.mk hn
 clear hn
 have HI : Aside0 (Lib.IsBuilder 102 5 w.heap.size w.heap.size (Lib.byteCells (nameL (l0.take 0))) (w.alloc (.cells #[.pointer none, .slice none 0 0] 102))) := ⟨Lib.fresh_isBuilder _ _ w⟩
 have HB : Aside0 (Below w.heap.size w (w.alloc (.cells #[.pointer none, .slice none 0 0] 102))) := ⟨below_alloc (Below.refl _ _) _⟩
 go_enter Tryz.func92, Tryz.ntmps92
 go_wp2
 generalize w.alloc (.cells #[.pointer none, .slice none 0 0] 102) = ws at HI HB ⊢
 go_loopg [5, 8] n (fun gg _ s8 wr => ∃ kk : Nat, kk ≤ n ∧ n - kk ≤ gg ∧ s8 = .int .i64 kk ∧ Aside0 (Below w.heap.size w wr) ∧ Aside0 (Lib.IsBuilder 102 5 w.heap.size w.heap.size (Lib.byteCells (nameL (l0.take kk))) wr))
 case atStart => exact ⟨0, Nat.zero_le _, by omega, rfl, HB, HI⟩
 case round =>
  clear HB HI
  obtain ⟨kk, hkk, hg, rfl, HB, HI⟩ := hrel
  by_cases hlt : kk < n
  ·have hltz : (kk : Int) < (n : Int) := by omega
   have hlt' : kk < l0.length := by have := HN.out; omega
   obtain ⟨ad, e1, hx0, hx1, hx2⟩ := at_T61 HR0.out (kk : Int) (by omega) (by omega)
   cases e1
   rw [rd_at _ _ hlt'] at hx0 hx1 hx2
   simp only [Int.toNat_natCast] at hx0 hx1 hx2
   replace hx0 := (HB.out.cell (World.block_lt_of_cell? w _ hx0)).trans hx0
   replace hx1 := (HB.out.cell (World.block_lt_of_cell? w _ hx1)).trans hx1
   replace hx2 := (HB.out.cell (World.block_lt_of_cell? w _ hx2)).trans hx2
   have hok := HS.out.2 l0[kk] (List.getElem_mem hlt')
   have htk : nameL (l0.take (kk + 1)) = nameL (l0.take kk) ++ (wrL l0[kk] ++ [44]) := by
    rw [List.take_add_one, List.getElem?_eq_getElem hlt', nameL_append]; rfl
   have hlen : (nameL (l0.take kk)).length ≤ kk * 403 := by
    have := nameL_len (l0.take kk) (fun v hv => HS.out.2 v (List.mem_of_mem_take hv))
    rw [List.length_take] at this
    refine Nat.le_trans this (Nat.mul_le_mul_right _ (Nat.min_le_left _ _))
   generalize l0[kk] = y at hx0 hx1 hx2 hok htk
   have hwl := wrL_len hok
   have hcall := fun W hL => value_Written.calls y.f0 y.f1 y.f2 (ofL (wrL y)) W hL (by unfold value_Written.f; rw [if_pos (show okV y.f0 y.f1 y.f2 = true from hok)]; rfl)
   have hsz : (ofL (wrL y)).size = (wrL y).length := ofL_size _
   have hsc : Lib.strCells (ofL (wrL y)) = Lib.byteCells (wrL y) := rfl
   have HC := Aside0.mk hcall
   have HT := Aside0.mk htk
   have HL := Aside0.mk (And.intro hlen (And.intro hwl hsz))
   have HSC := Aside0.mk hsc
   clear hok htk hlen hwl hcall hsz hsc hlt'
   generalize ofL (wrL y) = s at HC HL HSC
   go_wp2_with (go_at_call 117; refine (HC.out _ (HLD.out.below (below_alloc HB.out _))).mono ?_; rintro e w2 ⟨rfl, hb2⟩; have HB2 := Aside0.mk (below_step (below_alloc HB.out _) hb2); have HI2 := Aside0.mk (builder_below HI.out (below_step (below_alloc (Below.refl _ _) _) hb2)); clear hb2)
   go_at_call 77
   refine (builder_write _ _ _ _ _ HI2.out (by rw [Lib.byteCells_length]; have := HL.out; omega) HB2.out.size).mono ?_
   rintro e w3 ⟨rfl, hi3, hb3⟩
   have HB3 := Aside0.mk (HB2.out.trans hb3)
   have HI3 := Aside0.mk hi3
   clear hi3 hb3
   go_wp2_with (go_at_call 79; refine (builder_byte _ _ _ _ _ HI3.out (by rw [List.length_append, Lib.byteCells_length, Lib.strCells_length]; have := HL.out; omega) HB3.out.size).mono ?_; rintro e w4 ⟨rfl, hi4, hb4⟩; have HB4 := Aside0.mk (HB3.out.trans hb4); have HI4 := Aside0.mk hi4; clear hi4 hb4)
   go_roundg (n - (kk + 1))
   case measure => omega
   case rel =>
    refine ⟨kk + 1, by omega, by omega, by go_num, HB4, ⟨?_⟩⟩
    rw [HT.out, Lib.byteCells_append, Lib.byteCells_append, ← HSC.out, ← List.append_assoc]
    exact HI4.out
  ·have hltz : decide (kk < n) = false := by simpa using hlt
   have HI2 : Aside0 (Lib.IsBuilder 102 5 w.heap.size w.heap.size (Lib.byteCells (nameL l0)) wr) := ⟨by
    have h9 := HI.out
    rw [List.take_of_length_le (by have := HN.out; omega)] at h9
    exact h9⟩
   clear hlt HI
   go_wp2_with (go_at_call 81; refine (Tryz.Builder_String_any _ _ _ _ HI2.out HB.out.size).mono ?_; rintro e w' ⟨rfl, hb'⟩)
   go_ret
   exact ⟨rfl, HB.out.trans hb'⟩
end Go.Proofs.YtmhobbdedmjmnaaGreatDoor.Q
end
section
/- A row of one cell an element that a sort has laid: what it holds, and what a world keeps then; no program in sight. -/
namespace Go.Proofs.YtmhobbdedmjmnaaGreatDoor
open Go.RowKit Go.Sort Go.Proofs.YtmhobbdedmjmnaaGreatDoor.Q Go.Proofs.YtmhobbdedmjmnaaGreatDoorW.PrintWords Go.Proofs.YtmhobbdedmjmnaaGreatDoorW.PrintLast Go.Proofs.YtmhobbdedmjmnaaGreatDoorW.PrintMore
section
variable {α : Type} [Inhabited α] {enc : α → Value}
theorem sort1_other {w : World} {g m k : Nat} {ys : Array α} {os : Array Obj} (hk : k < w.heap.size) (hne : k ≠ g) : (sortWorld enc w g 0 m ys os).heap[k]? = w.heap[k]? := by
  unfold sortWorld grow putRow mapBlock Sort.ahead
  show (w.heap.modify g _ ++ os)[k]? = _
  rw [Array.getElem?_append_left (by simpa using hk), Array.getElem?_modify, if_neg (fun e => hne e.symm)]
theorem sort1_at {w : World} {g m e : Nat} {cur : Array Value} {ys : Array α} {os : Array Obj} (hh : w.heap[g]? = some (.cells cur e (0, 0))) : (sortWorld enc w g 0 m ys os).heap[g]? = some (.cells (putCells enc 0 ys cur) e (0, 0)) := by
  have hg := blk_lt hh
  unfold sortWorld grow putRow mapBlock Sort.ahead
  show (w.heap.modify g _ ++ os)[g]? = _
  rw [Array.getElem?_append_left (by simpa using hg), Array.getElem?_modify, if_pos rfl, hh]
  rfl
theorem sort1_grown {w : World} {g m : Nat} {ys : Array α} {os : Array Obj} : w.grownBy (sortWorld enc w g 0 m ys os) (some g) :=
  ⟨rfl, rfl, rfl, by unfold sortWorld; rw [size_grow, Sort.size_putRow]; exact Nat.le_add_right _ _, fun k hk hne => sort1_other hk fun e => hne (by rw [e])⟩
theorem holds1 {w : World} {g e : Nat} {cur : Array Value} (hh : w.heap[g]? = some (.cells cur e (0, 0))) (d : Array α) (hc : ∀ j, j < d.size → cur[j]? = some (enc d[j]!)) : Holds enc w g 0 d := fun j hj =>
  ⟨by rw [blk_cell hh, Nat.zero_add]; exact hc j hj, blk_frozen hh _⟩
theorem put1_take (cur : Array Value) (ys : Array α) (h : ys.size ≤ cur.size) : (putCells enc 0 ys cur).toList.take ys.size = ys.toList.map enc := by
  refine List.ext_getElem? fun j => ?_
  by_cases hj : j < ys.size
  · rw [List.getElem?_take_of_lt hj, Array.getElem?_toList]
    unfold putCells
    rw [Array.getElem?_mapIdx, Array.getElem?_eq_getElem (show j < cur.size by omega), Option.map_some, if_pos ⟨Nat.zero_le _, by omega⟩, Nat.sub_zero, List.getElem?_map, Array.getElem?_toList, Array.getElem?_eq_getElem hj]
    simp [hj]
  · rw [List.getElem?_eq_none (by rw [List.length_take]; omega), List.getElem?_eq_none (by rw [List.length_map, Array.length_toList]; omega)]
end
end Go.Proofs.YtmhobbdedmjmnaaGreatDoor
end
section
/- A row of elements of one cell, of whatever kind, that slices.SortFunc has sorted: what it holds then; rows that lie apart from one another stay so. -/
namespace Go.Proofs.YtmhobbdedmjmnaaGreatDoor
open Go.RowKit Go.Sort Go.Shelf Go.Proofs.YtmhobbdedmjmnaaGreatDoor.Q Go.Proofs.YtmhobbdedmjmnaaGreatDoorW.PrintWords Go.Proofs.YtmhobbdedmjmnaaGreatDoorW.PrintLast Go.Proofs.YtmhobbdedmjmnaaGreatDoorW.PrintMore
section
variable {α β : Type}
/-- an element's cell and what it holds, at a world; one of a list's -/
abbrev HdK (d : Kd α) (w : World) (base : Nat) (ok : Nat → Prop) (xs : List α) : Type := {p : Value × α // d.M w base ok p.2 [p.1] ∧ p.2 ∈ xs}
theorem repsK_hd {d : Kd α} {w : World} {base : Nat} {ok : Nat → Prop} {xs0 : List α} : ∀ (xs : List α) (inner : List Value), Reps (d.M w base ok) 1 xs inner → (∀ r ∈ xs, r ∈ xs0) →
    ∃ ds : List (HdK d w base ok xs0), ds.map (fun p => p.1.2) = xs ∧ ds.map (fun p => p.1.1) = inner
  | [], inner, h, _ => ⟨[], rfl, by
    have := h.1
    simp at this
    simp [this]⟩
  | x :: xs, inner, h, hl => by
    obtain ⟨c, rest, rfl⟩ : ∃ c rest, inner = c :: rest := by
      cases inner with
      | nil => have := h.1; simp at this
      | cons c r => exact ⟨c, r, rfl⟩
    have hM : d.M w base ok x [c] := by
      have h2 := h.2 0 x rfl
      simpa using h2
    obtain ⟨ds, h1, h2⟩ := repsK_hd (xs0 := xs0) xs rest ⟨by have := h.1; simp at this ⊢; omega, fun j p hj => by
      have := h.2 (j + 1) p (by simpa using hj)
      simpa using this⟩ fun r hr => hl r (List.mem_cons_of_mem _ hr)
    exact ⟨⟨(c, x), hM, hl x List.mem_cons_self⟩ :: ds, by rw [List.map_cons, h1], by rw [List.map_cons, h2]⟩
theorem hd_repsK {d : Kd α} {w w1 : World} {base : Nat} {ok : Nat → Prop} {xs0 : List α} (hm : ∀ k, ok k → k < w.heap.size → w1.heap[k]? = w.heap[k]?) : ∀ ds : List (HdK d w base ok xs0),
    Reps (d.M w1 base ok) 1 (ds.map fun p => p.1.2) (ds.map fun p => p.1.1)
  | [] => Reps.none _ _
  | p :: ds => Reps.one (Kd.M_step p.2.1 hm) (hd_repsK hm ds)
theorem perm_of_in {γ : Type} [Inhabited γ] {d d' : Array γ} (hp : PermIn 0 d.size d d') : d'.toList.Perm d.toList := by
  have hsz := hp.1
  have h3 := hp.2.2
  rw [show d'.extract 0 d.size = d' by rw [← hsz]; simp, show d.extract 0 d.size = d by simp] at h3
  exact h3
/-- slices.SortFunc at a row of the call's own whose elements have one cell: it holds the same elements, in their order by what f tells of them. -/
theorem sortKd {P : Program} {ρ : Ren} (L : SlLaysF.n6 P ρ) (d : Kd α) (hsz : d.sz = 1) (e : Nat) (cf : β → β → Int) (hcf : TC cf) (f : α → β) (g : Nat) (cb : Array Value)
    (eg : ∀ args w, (callFunc g args).run P w = .ok (.enter g args) w) (v : Value) (xs : List α) (w : World) (base : Nat) (ok : Nat → Prop) (h : Kd.R d e w base ok v xs) (hlen : xs.length < 4611686018427387904)
    (hcmp : ∀ (x y : α) (cx cy : Value) (W : World), x ∈ xs → y ∈ xs → d.M W base (fun k => ok k ∧ some k ≠ v.ownBlock) x [cx] → d.M W base (fun k => ok k ∧ some k ≠ v.ownBlock) y [cy] → (∀ k, k < w.heap.size → some k ≠ v.ownBlock → W.heap[k]? = w.heap[k]?) →
      Calls P g (#[cx, cy] ++ cb) W fun e w' => e = .returned (.int .i64 (cf (f x) (f y))) ∧ BelowD W.heap.size W w') :
    Calls P (ρ.f 6) #[v, .func (.func g) #[] cb] w fun e' w' => e' = .returned (.tuple #[]) ∧ (∃ ys : List α, ys.Perm xs ∧ ys.map f = sortBy cf (xs.map f) ∧ Kd.R d e w' base ok v ys) ∧ w.grownBy w' v.ownBlock ∧ (∀ (B : Nat) (w0 : World), B ≤ base → Below B w0 w → B ≤ w.heap.size → Below B w0 w') := by
  have h' := h
  cases hxs : xs with
  | nil =>
    subst hxs
    obtain ⟨A, c, rfl⟩ := Kd.R_slice h
    refine (AnyF.slices_SortFunc_none { L with } A c (.func (.func g) #[] cb) w).mono ?_
    rintro e' w' ⟨rfl, rfl⟩
    exact ⟨rfl, ⟨[], List.Perm.refl _, by simp [sortBy], h'⟩, grownBy_of_below (Below.refl _ _) _, fun _ _ _ hB _ => hB⟩
  | cons x0 xr =>
    rw [← hxs]
    obtain ⟨h0, inner, ho, hr⟩ := h
    have hr' : Reps (d.M w base (fun k => ok k ∧ some k ≠ v.ownBlock)) 1 xs inner := by rw [hsz] at hr; exact hr
    rcases ho with ⟨hil, ⟨rfl, hz⟩ | ⟨gb, cap, cur, rfl, hb, hh, hn, hm, hs, ht⟩⟩
    · have hx : xs = [] := List.length_eq_zero_iff.1 hz
      rw [hx] at hxs; cases hxs
    · obtain ⟨ds, hd1, hd2⟩ := repsK_hd (xs0 := xs) xs inner hr' fun r hr => hr
      have hdl : ds.length = xs.length := by
        have h5 := congrArg List.length hd1
        rw [List.length_map] at h5
        exact h5
      obtain ⟨p0, dr, hp0⟩ : ∃ p0 dr, ds = p0 :: dr := by
        cases ds with
        | nil => rw [hxs] at hdl; simp at hdl
        | cons p dr => exact ⟨p, dr, rfl⟩
      haveI : Inhabited (HdK d w base (fun k => ok k ∧ some k ≠ (Value.slice (some ⟨gb, 0, none⟩) xs.length cap).ownBlock) xs) := ⟨p0⟩
      have hs' : cur.size = cap * 1 := by rw [hs, hsz]
      have ht' : List.take (xs.length * 1) cur.toList = inner := by rw [hsz] at ht; exact ht
      rw [Nat.mul_one] at hs' ht'
      have hH : Go.Sort.Holds (fun p : HdK d w base (fun k => ok k ∧ some k ≠ (Value.slice (some ⟨gb, 0, none⟩) xs.length cap).ownBlock) xs => p.1.1) w gb 0 ds.toArray := holds1 hh ds.toArray fun j hj => by
        have hj' : j < ds.length := by simpa using hj
        have e1 : inner[j]? = some ds[j].1.1 := by rw [← hd2]; simp [hj']
        rw [← ht', List.getElem?_take_of_lt (by omega), Array.getElem?_toList] at e1
        rw [e1]
        simp [hj']
      have hc1 : Go.Proofs.CmpLays1 P g cb (fun p : HdK d w base (fun k => ok k ∧ some k ≠ (Value.slice (some ⟨gb, 0, none⟩) xs.length cap).ownBlock) xs => p.1.1) (fun x y => cf (f x.1.2) (f y.1.2)) gb 0 ds.toArray.size w := fun m os dk _ x y => by
        have mv : ∀ k, k < w.heap.size → some k ≠ (Value.slice (some ⟨gb, 0, none⟩) xs.length cap).ownBlock → (sortWorld (fun p : HdK d w base (fun k => ok k ∧ some k ≠ (Value.slice (some ⟨gb, 0, none⟩) xs.length cap).ownBlock) xs => p.1.1) w gb 0 m dk os).heap[k]? = w.heap[k]? := fun k hlt hk => sort1_other hlt fun e => hk (by rw [e]; rfl)
        exact (hcmp x.1.2 y.1.2 x.1.1 y.1.1 _ x.2.2 y.2.2 (Kd.M_step x.2.1 fun k hk hlt => mv k hlt hk.2) (Kd.M_step y.2.1 fun k hk hlt => mv k hlt hk.2) mv).mono fun _ _ ⟨he, hb⟩ => ⟨he, hb.grown⟩
      have hc := Any.slices_SortFunc L (fun p : HdK d w base (fun k => ok k ∧ some k ≠ (Value.slice (some ⟨gb, 0, none⟩) xs.length cap).ownBlock) xs => p.1.1) (fun p => d.K_one (d.K_of_M p.2.1) p.1.1 (by simp)) (fun x y => cf (f x.1.2) (f y.1.2)) (hcf.swo_of (fun p : HdK d w base (fun k => ok k ∧ some k ≠ (Value.slice (some ⟨gb, 0, none⟩) xs.length cap).ownBlock) xs => f p.1.2)) g cb gb 0 cap ds.toArray w eg hc1 hH (blk_lt hh) (by simpa [hdl] using hlen)
      rw [show ds.toArray.size = xs.length by simp [hdl]] at hc
      refine hc.mono ?_
      rintro e' w' ⟨rfl, d', m, os, hp, hso, rfl⟩
      have him := hcf.image (fun p : HdK d w base (fun k => ok k ∧ some k ≠ (Value.slice (some ⟨gb, 0, none⟩) xs.length cap).ownBlock) xs => f p.1.2) (d := ds.toArray) (d' := d') (by rw [show ds.toArray.size = xs.length by simp [hdl]]; exact hp) (by rw [show ds.toArray.size = xs.length by simp [hdl]]; exact hso)
      have hpm := perm_of_in (d := ds.toArray) (d' := d') (by rw [show ds.toArray.size = xs.length by simp [hdl]]; exact hp)
      rw [show ds.toArray.toList = ds by simp] at him hpm
      have hd'l : d'.size = xs.length := by rw [hp.1]; simp [hdl]
      have hys : (d'.toList.map fun p => p.1.2).length = xs.length := by rw [List.length_map, Array.length_toList, hd'l]
      refine ⟨rfl, ⟨d'.toList.map fun p => p.1.2, ?_, ?_, ⟨h0, d'.toList.map (fun p => p.1.1), ?_, ?_⟩⟩, sort1_grown, fun B w0 hB hbl hsz => below_of_grownBy hbl hsz (Nat.le_trans hB hb) sort1_grown⟩
      · exact (hpm.map fun p => p.1.2).trans (List.Perm.of_eq hd1)
      · rw [List.map_map]
        refine Eq.trans him (congrArg (sortBy cf) ?_)
        have h9 := congrArg (List.map f) hd1
        rw [List.map_map] at h9
        exact h9
      · refine ⟨by rw [List.length_map, Array.length_toList, hys, hd'l, hsz, Nat.mul_one], .inr ⟨gb, cap, Go.Sort.putCells (fun p : HdK d w base (fun k => ok k ∧ some k ≠ (Value.slice (some ⟨gb, 0, none⟩) xs.length cap).ownBlock) xs => p.1.1) 0 d' cur, by rw [hys], hb, sort1_at hh, by rw [hys]; exact hn, hm, (show _ = cap * d.sz by rw [hsz, Nat.mul_one, ← hs']; simp [Go.Sort.putCells]), ?_⟩⟩
        show List.take ((d'.toList.map fun p => p.1.2).length * d.sz) _ = _
        rw [hys, hsz, Nat.mul_one, ← hd'l]
        exact put1_take cur d' (by rw [hd'l, hs']; exact hn)
      · rw [hsz]
        exact hd_repsK (fun k hk hlt => sort1_other hlt fun e => hk.2 (by rw [e]; rfl)) d'.toList
/-- rows of which each leads to blocks of its own, in another order: they lie apart as before -/
theorem S_of_tags {d : Kd α} {e : Nat} {w : World} {base : Nat} {ok : Nat → Prop} {v : Value} {fo : Nat → Nat} {ys : List (α × Nat)} (h : (Kd.tag fo d).R e w base ok v ys) (hn : (ys.map Prod.snd).Nodup) : Kd.S d e w base ok v (ys.map Prod.fst) := by
  obtain ⟨h0, inner, ho, hr⟩ := h
  refine ⟨fun k => (ys.map Prod.snd).findIdx (fun i => i == fo k), h0, inner, by rw [List.length_zipIdx, List.length_map]; exact ho, by rw [List.length_zipIdx, List.length_map]; exact hr.1, fun j p hj => ?_⟩
  rw [List.getElem?_zipIdx, Nat.zero_add] at hj
  obtain ⟨x, hx, rfl⟩ := Option.map_eq_some_iff.1 hj
  rw [List.getElem?_map] at hx
  obtain ⟨y, hy, rfl⟩ := Option.map_eq_some_iff.1 hx
  have hjl := (List.getElem?_eq_some_iff.1 hy).1
  refine d.M_mono (fun k hk => ⟨hk.1, ?_⟩) (hr.2 j y hy)
  have hfo : fo k = y.2 := hk.2
  show (ys.map Prod.snd).findIdx (fun i => i == fo k) = j
  have hjl' : j < (ys.map Prod.snd).length := by rw [List.length_map]; exact hjl
  have hyj : (ys.map Prod.snd)[j] = y.2 := by rw [List.getElem_map, (List.getElem?_eq_some_iff.1 hy).2]
  rw [List.findIdx_eq hjl']
  refine ⟨by rw [hyj, hfo]; exact beq_self_eq_true _, fun i hi => ?_⟩
  have hil : i < (ys.map Prod.snd).length := by omega
  have hne := (List.pairwise_iff_getElem.1 hn) i j hil hjl' hi
  rw [hfo, ← hyj]
  exact beq_eq_false_iff_ne.2 hne
theorem sortS {P : Program} {ρ : Ren} (L : SlLaysF.n6 P ρ) (d : Kd α) (hsz : d.sz = 1) (e : Nat) (cf : α → α → Int) (hcf : TC cf) (g : Nat) (cb : Array Value)
    (eg : ∀ args w, (callFunc g args).run P w = .ok (.enter g args) w) (v : Value) (xs : List α) (w : World) (base : Nat) (ok : Nat → Prop) (h : Kd.S d e w base ok v xs) (hlen : xs.length < 4611686018427387904)
    (hcmp : ∀ (x y : α) (cx cy : Value) (W : World), x ∈ xs → y ∈ xs → d.M W base (fun k => ok k ∧ some k ≠ v.ownBlock) x [cx] → d.M W base (fun k => ok k ∧ some k ≠ v.ownBlock) y [cy] → (∀ k, k < w.heap.size → some k ≠ v.ownBlock → W.heap[k]? = w.heap[k]?) →
      Calls P g (#[cx, cy] ++ cb) W fun e w' => e = .returned (.int .i64 (cf x y)) ∧ BelowD W.heap.size W w') :
    Calls P (ρ.f 6) #[v, .func (.func g) #[] cb] w fun e' w' => e' = .returned (.tuple #[]) ∧ Kd.S d e w' base ok v (sortBy cf xs) ∧ w.grownBy w' v.ownBlock ∧ (∀ (B : Nat) (w0 : World), B ≤ base → Below B w0 w → B ≤ w.heap.size → Below B w0 w') := by
  obtain ⟨fo, hR⟩ := h
  have mem1 : ∀ p ∈ xs.zipIdx, p.1 ∈ xs := fun p hp => List.fst_mem_of_mem_zipIdx hp
  refine (sortKd L (Kd.tag fo d) hsz e cf hcf Prod.fst g cb eg v xs.zipIdx w base ok hR (by rw [List.length_zipIdx]; exact hlen) fun x y cx cy W hx hy hMx hMy hW => ?_).mono ?_
  · exact hcmp x.1 y.1 cx cy W (mem1 x hx) (mem1 y hy) (d.M_mono (fun k hk => hk.1) hMx) (d.M_mono (fun k hk => hk.1) hMy) hW
  · rintro e' w' ⟨rfl, ⟨ys, hp, hm, hRy⟩, hg, hb⟩
    refine ⟨rfl, ?_, hg, hb⟩
    rw [List.zipIdx_map_fst] at hm
    rw [← hm]
    refine S_of_tags hRy ?_
    have hp2 := hp.map Prod.snd
    rw [List.zipIdx_map_snd] at hp2
    exact hp2.nodup_iff.2 (List.nodup_range' ..)
end
end Go.Proofs.YtmhobbdedmjmnaaGreatDoor
end
section
/- A row of one cell an element: an element stored, the row cut short and what lies behind it zeroed; of a list the elements that differ from what stands ahead of them, told by f; no program in sight. -/
namespace Go.Proofs.YtmhobbdedmjmnaaGreatDoor
open Go.RowKit Go.Sort Go.Proofs.YtmhobbdedmjmnaaGreatDoor.Q Go.Proofs.YtmhobbdedmjmnaaGreatDoorW.PrintWords Go.Proofs.YtmhobbdedmjmnaaGreatDoorW.PrintLast Go.Proofs.YtmhobbdedmjmnaaGreatDoorW.PrintMore
section
variable {α : Type} {d : Kd α} {e base g n cap : Nat} {W : World} {ok : Nat → Prop} {xs : List α}
theorem row_at1 (hsz : d.sz = 1) (h : Kd.R d e W base ok (.slice (some ⟨g, 0, none⟩) n cap) xs) (i : Nat) (hi : i < xs.length) :
    ∃ c, W.cell? ⟨g, i, none⟩ = some c ∧ d.M W base (fun k => ok k ∧ some k ≠ (Value.slice (some ⟨g, 0, none⟩) n cap).ownBlock) xs[i] [c] ∧ W.frozen? ⟨g, i, none⟩ = false := by
  have hn := (Kd.R_reads' h).1
  obtain ⟨c, hc1, hc2, hc3, hc4⟩ := Kd.R_elem h xs[i] (i : Int) (by omega) (by omega)
  obtain ⟨c0, rfl⟩ : ∃ c0, c = [c0] := by
    rw [hsz] at hc1
    match c, hc1 with
    | [c0], _ => exact ⟨c0, rfl⟩
  have e1 : xs.getD (i : Int).toNat xs[i] = xs[i] := by
    rw [Int.toNat_natCast, List.getD_eq_getElem?_getD, List.getElem?_eq_getElem hi]; rfl
  rw [e1] at hc2
  have e2 : (i : Int).toNat * d.sz + 0 = i := by rw [hsz, Int.toNat_natCast]; omega
  refine ⟨c0, ?_, d.M_mono (fun k hk => ⟨hk.1, fun q => hk.2 (by simpa [Value.ownBlock] using q)⟩) hc2, ?_⟩
  · rw [← e2]; exact hc3 0 c0 rfl
  · rw [← e2]; exact hc4 0
theorem row_put1 (hsz : d.sz = 1) (h : Kd.R d e W base ok (.slice (some ⟨g, 0, none⟩) n cap) xs) (i : Nat) (hi : i < n) (x : α) (cx : Value) (hx : d.M W base (fun k => ok k ∧ some k ≠ (Value.slice (some ⟨g, 0, none⟩) n cap).ownBlock) x [cx]) :
    Kd.R d e (W.setCell ⟨g, i, none⟩ cx) base ok (.slice (some ⟨g, 0, none⟩) n cap) (xs.set i x) ∧ W.grownBy (W.setCell ⟨g, i, none⟩ cx) (some g) := by
  obtain ⟨c, hc1, hc2, hc3, _⟩ := Kd.R_elem h x (i : Int) (by omega) (by omega)
  have h2 := Kd.R_seg (okp := fun k => ok k ∧ k ≠ g) h (i : Int) (by omega) (by omega) (c := c) (seg := [cx]) (j := 0) hc1 hc3 (by rw [hsz]; exact Nat.le_refl _) (x' := x) (by
    rw [List.take_zero, List.nil_append, List.drop_of_length_le (by rw [hc1, hsz]; exact Nat.le_refl _), List.append_nil]
    exact d.M_mono (fun k hk => ⟨hk.1, fun q => hk.2 (by rw [q]; rfl)⟩) hx) (fun _ hk => hk)
  have e1 : (i : Int).toNat * d.sz + 0 = i := by rw [hsz, Int.toNat_natCast]; omega
  rw [e1, Int.toNat_natCast] at h2
  exact h2
theorem row_cut1 (hsz : d.sz = 1) (h : Kd.R d e W base ok (.slice (some ⟨g, 0, none⟩) n cap) xs) (k : Nat) (hk : k ≤ xs.length) (vs : List Value) :
    Kd.R d e (W.setCells g k vs) base ok (.slice (some ⟨g, 0, none⟩) k cap) (xs.take k) ∧ W.grownBy (W.setCells g k vs) (some g) := by
  have h1 := Kd.R_take h hk
  obtain ⟨h0, inner, ho, hr⟩ := h1
  have hl : (xs.take k).length = k := by rw [List.length_take]; omega
  rcases ho with ⟨h1, ⟨he, _⟩ | ⟨g', cap', cur, he, hb, hh, h2, h3, hs, ht⟩⟩
  · cases he
  · injection he with he1 he2 he3
    injection he1 with he1
    injection he1 with he1
    subst he1 he3
    obtain ⟨cur', g1, g2, g3, g4⟩ := setCells_block vs W g k _ cur hh
    refine ⟨⟨h0, inner, ⟨h1, .inr ⟨g, cap, cur', by rw [hl], hb, g1, h2, h3, by rw [g2]; exact hs, ?_⟩⟩, hr.imp_ fun p c hp => Kd.M_step hp fun b hb1 hb2 => g4.block b hb2 fun q => hb1.2 (by rw [q]; rfl)⟩, g4⟩
    rw [hl, hsz, Nat.mul_one] at ht ⊢
    rw [← ht]
    refine List.ext_getElem? fun j => ?_
    by_cases hj : j < k
    · rw [List.getElem?_take_of_lt hj, List.getElem?_take_of_lt hj, Array.getElem?_toList, Array.getElem?_toList, g3 j hj]
    · rw [List.getElem?_eq_none (by rw [List.length_take]; omega), List.getElem?_eq_none (by rw [List.length_take]; omega)]
end
section
variable {α : Type} {d : Kd α} {e base n c : Nat} {w : World} {ok : Nat → Prop} {A : Option Addr} {xs : List α}
/-- the cells of rows that lie apart; and the same cells in a new block: the elder ones are given up -/
theorem S_cells (hsz : d.sz = 1) (h : Kd.S d e w base ok (.slice A n c) xs) (hbase : base ≤ w.heap.size) : ∃ cs : List Value, cs.length = xs.length ∧ (∀ u ∈ cs, u.oneCell' = true) ∧ (∀ ad, A = some ad → ∀ j u, cs[j]? = some u → w.cell? (ad.add j) = some u) ∧
    (∀ w1 v', Below w.heap.size w w1 → w1.ownsRow w.heap.size e 1 v' xs.length cs → Kd.S d e w1 base (fun _ => True) v' xs) := by
  obtain ⟨fo, h0, inner, ho, hr⟩ := h
  have hil : inner.length = xs.length := by
    have := hr.1
    rw [List.length_zipIdx, show (Kd.tag fo d).sz = 1 from hsz, Nat.mul_one] at this
    exact this
  refine ⟨inner, hil, fun u hu => ?_, fun ad ha j u hj => ?_, fun w1 v' hb hown => ?_⟩
  · obtain ⟨j, hj, rfl⟩ := List.getElem_of_mem hu
    have hjx : j < xs.length := by omega
    have h2 := hr.2 j (xs[j], j) (Kd.zip_at (List.getElem?_eq_getElem hjx))
    refine (Kd.tag fo d).K_one ((Kd.tag fo d).K_of_M h2) _ ?_
    rw [show (Kd.tag fo d).sz = 1 from hsz, Nat.mul_one, List.drop_eq_getElem_cons hj, List.take_succ_cons]
    exact List.mem_cons_self
  · subst ha
    rcases ho.2 with ⟨he, _⟩ | ⟨g, cap, cur, he, _, hh, _, _, _, ht⟩
    · cases he
    · injection he with he1 he2 he3
      injection he1 with he1
      subst he1
      rw [add_at, Nat.zero_add, blk_cell hh]
      rw [List.length_zipIdx, show (Kd.tag fo d).sz = 1 from hsz, Nat.mul_one] at ht
      have hjx : j < xs.length := by
        have := (List.getElem?_eq_some_iff.1 hj).1
        omega
      rw [← ht, List.getElem?_take_of_lt hjx, Array.getElem?_toList] at hj
      exact hj
  · refine ⟨fo, fun _ _ => trivial, inner, ?_, ?_⟩
    · rw [List.length_zipIdx, show (Kd.tag fo d).sz = 1 from hsz]
      exact own_weaken hown hbase
    · refine hr.imp_ fun p q hp => ?_
      refine (Kd.tag fo d).M_mono (fun k hk => ⟨trivial, fun q => ?_⟩) (Kd.M_step ((Kd.tag fo d).M_bound hp) fun k _ hlt => hb.block k hlt)
      have := own_base hown k q.symm
      have := hk.2.2.1
      omega
end
section
variable {α β : Type} [DecidableEq β] [Inhabited β]
/-- of a list's first m elements the ones that f tells apart from what stands ahead of them -/
def onceU (f : α → β) (l : List α) : Nat → List α
  | 0 => []
  | m + 1 => onceU f l m ++ if Lib.keeps (l.map f).toArray m = true then l[m]?.toList else []
theorem onceU_map (f : α → β) (l : List α) : ∀ m, m ≤ l.length → (onceU f l m).map f = Lib.compactUpTo (l.map f).toArray m
  | 0, _ => rfl
  | m + 1, h => by
    rw [onceU, List.map_append, onceU_map f l m (by omega), Lib.compactUpTo_succ]
    have hm : m < l.length := by omega
    by_cases hk : Lib.keeps (l.map f).toArray m = true
    · rw [if_pos hk, if_pos hk, List.getElem?_eq_getElem hm]
      simp [hm]
    · rw [if_neg hk, if_neg hk, List.map_nil]
theorem onceU_sub (f : α → β) (l : List α) : ∀ m, (onceU f l m).Sublist (l.take m)
  | 0 => List.Sublist.refl _
  | m + 1 => by
    rw [onceU, List.take_add_one]
    refine (onceU_sub f l m).append ?_
    by_cases hk : Lib.keeps (l.map f).toArray m = true
    · rw [if_pos hk]; exact List.Sublist.refl _
    · rw [if_neg hk]; exact List.nil_sublist _
theorem onceU_le (f : α → β) (l : List α) (m : Nat) : (onceU f l m).length ≤ m := Nat.le_trans (onceU_sub f l m).length_le (by rw [List.length_take]; exact Nat.min_le_left _ _)
theorem onceU_all (f : α → β) (l : List α) : ∀ m, (∀ j, j < m → Lib.keeps (l.map f).toArray j = true) → onceU f l m = l.take m
  | 0, _ => rfl
  | m + 1, h => by rw [onceU, onceU_all f l m (fun j hj => h j (by omega)), if_pos (h m (by omega)), List.take_add_one]
theorem onceU_one (f : α → β) (l : List α) (hl : l.length ≤ 1) : onceU f l l.length = l := by
  rw [onceU_all f l l.length fun j hj => Lib.keeps_lt_one _ j (by omega), List.take_length]
theorem onceU_skip {f : α → β} {l : List α} {m : Nat} (h : Lib.keeps (l.map f).toArray m = false) : onceU f l (m + 1) = onceU f l m := by
  rw [onceU, if_neg (by rw [h]; decide), List.append_nil]
theorem onceU_keep {f : α → β} {l : List α} {m : Nat} (hm : m < l.length) (h : Lib.keeps (l.map f).toArray m = true) : onceU f l (m + 1) = onceU f l m ++ [l[m]] := by
  rw [onceU, if_pos h, List.getElem?_eq_getElem hm]; rfl
theorem keeps_at {f : α → β} {l : List α} {m : Nat} (h0 : 0 < m) (hm : m < l.length) : Lib.keeps (l.map f).toArray m = !decide (f l[m] = f (l[m - 1]'(by omega))) := by
  have e1 : (l.map f).toArray[m]! = f l[m] := by simp [hm]
  have e2 : (l.map f).toArray[m - 1]! = f (l[m - 1]'(by omega)) := by
    have : m - 1 < l.length := by omega
    simp [this]
  by_cases h : f l[m] = f (l[m - 1]'(by omega))
  · rw [Lib.keeps_neg h0 (by rw [e1, e2]; exact h), decide_eq_true h]; rfl
  · rw [Lib.keeps_pos (by rw [e1, e2]; exact h), decide_eq_false h]; rfl
/-- the row while it is made short: what is kept of the first m, then as it was -/
theorem cut_at {f : α → β} {l : List α} {m j : Nat} (hj : (onceU f l m).length ≤ j) (hl : j < l.length) : (onceU f l m ++ l.drop (onceU f l m).length)[j]? = some l[j] := by
  rw [List.getElem?_append_right hj, List.getElem?_drop, show (onceU f l m).length + (j - (onceU f l m).length) = j by omega, List.getElem?_eq_getElem hl]
theorem cut_put {f : α → β} {l : List α} {m : Nat} (hm : m < l.length) (hk : (onceU f l m).length < l.length) (h : Lib.keeps (l.map f).toArray m = true) :
    (onceU f l m ++ l.drop (onceU f l m).length).set (onceU f l m).length l[m] = onceU f l (m + 1) ++ l.drop (onceU f l (m + 1)).length := by
  rw [onceU_keep hm h, List.length_append, List.length_singleton, List.drop_eq_getElem_cons hk, List.set_append_right _ _ (Nat.le_refl _), Nat.sub_self, List.set_cons_zero, List.append_assoc]
  rfl
theorem cut_len {f : α → β} {l : List α} {m : Nat} (hm : m ≤ l.length) : (onceU f l m ++ l.drop (onceU f l m).length).length = l.length := by
  have := onceU_le f l m
  rw [List.length_append, List.length_drop]
  omega
theorem cut_take {f : α → β} {l : List α} {m : Nat} : (onceU f l m ++ l.drop (onceU f l m).length).take (onceU f l m).length = onceU f l m := List.take_left
end
theorem run_clear_R {W : World} (ty : TypeId) (g o n c : Nat) (hn : 0 < n) (hc : ∀ j, j < n → (W.cell? ⟨g, o + j, none⟩).isSome = true) (hf : ∀ j, j < n → W.frozen? ⟨g, o + j, none⟩ = false) :
    (Builtin.clear_ #[22] ty #[.slice (some ⟨g, o, none⟩) n c]).run Tryz.prog W = .ok (.tuple #[]) (W.setCells g o (Builtin.zeroCells #[.slice none 0 0] n).toList) := by
  have hl : (Builtin.zeroCells #[.slice none 0 0] n).toList.length = n := by simp [Builtin.zeroCells]
  have hst := run_storeCells_cells (P := Tryz.prog) g o (Builtin.zeroCells #[.slice none 0 0] n).toList 0 W (by rw [hl]; simpa using hc) (by rw [hl]; simpa using hf) (by
    intro v hv
    simp only [Builtin.zeroCells, Array.toList_map, List.mem_map] at hv
    obtain ⟨i, _, rfl⟩ := hv
    have : i % 1 = 0 := by omega
    show (#[Value.slice none 0 0][i % 1]!).oneCell' = true
    rw [this]; rfl)
  simp only [Nat.add_zero] at hst
  obtain ⟨m, rfl⟩ : ∃ m, n = m + 1 := ⟨n - 1, by omega⟩
  have hz : ∀ w, (zeroValue 40).run Tryz.prog w = .ok (.slice none 0 0) w := Tryz.zeroValue40
  simp [Builtin.clear_, run_underlying Tryz.underlying22, hz, Value.cells, hst]
end Go.Proofs.YtmhobbdedmjmnaaGreatDoor
end
section
/- Each function reached is shown to return what the plain function beside it computes, wherever that is defined (written by a program of ours for this seat). -/
namespace Go.Proofs.YtmhobbdedmjmnaaGreatDoor.Q
open Go.RowKit Go.Proofs.YtmhobbdedmjmnaaGreatDoorW.PrintWords Go.Proofs.YtmhobbdedmjmnaaGreatDoorW.PrintLast Go.Proofs.YtmhobbdedmjmnaaGreatDoorW.PrintMore
attribute [local go_sem] max2_int min2_int max_two min_two max_three min_three max_four min_four   -- for this text's walks alone
set_option linter.unusedVariables false
set_option linter.unusedSimpArgs false
set_option maxRecDepth 100000 in
set_option maxHeartbeats 2000000 in
theorem countsR.calls (A0 : Option Addr) (c0 : Nat) (l0 : List (List V)) (w : World) (hL_ : Laid w) (hr0 : Kd.C (Kd.slice 61 k61) w A0 l0.length l0) (hok : okRR l0 = true) :
    Calls Tryz.prog 90 #[.slice A0 l0.length c0] w fun e w' => e = .returned (.map (some w.heap.size)) ∧ MapIs w' w.heap.size l0.length (cntN l0) ∧ Below w.heap.size w w' := by
  have HLD := Aside0.mk hL_
  have HR0 := Aside0.mk hr0
  have HS := Aside0.mk (okRR_spec hok)
  clear hL_ hr0 hok
  obtain ⟨n, hn⟩ : ∃ n, n = l0.length := ⟨_, rfl⟩
  rw [← hn]
  have hle : n ≤ 1000000 := by have := HS.out.1; omega
  have HN := Aside0.mk hn
  clear hn
  have HM : Aside0 (MapIs (w.alloc (.map #[] 0)) w.heap.size 0 (cntN (l0.take 0))) := ⟨mapIs_congr (mapIs_made w) fun _ => rfl⟩
  have HB : Aside0 (Below w.heap.size w (w.alloc (.map #[] 0))) := ⟨below_alloc (Below.refl _ _) _⟩
  have hmm := @run_makeMap Tryz.prog
  go_enter Tryz.func90, Tryz.ntmps90
  go_wp2
  clear hmm
  generalize w.alloc (.map #[] 0) = ws at HM HB ⊢
  go_loopg [5, 9] n (fun gg _ s9 wr => ∃ kk : Nat, kk ≤ n ∧ n - kk ≤ gg ∧ s9 = .int .i64 kk ∧ Aside0 (Below w.heap.size w wr) ∧ Aside0 (MapIs wr w.heap.size kk (cntN (l0.take kk))))
  case atStart => exact ⟨0, Nat.zero_le _, by omega, rfl, HB, HM⟩
  case round =>
    clear HB HM
    obtain ⟨kk, hkk, hg, rfl, HB, HM⟩ := hrel
    by_cases hlt : kk < n
    · have hltz : (kk : Int) < (n : Int) := by omega
      have hlt' : kk < l0.length := by have := HN.out; omega
      obtain ⟨ad, e1, hcs⟩ := HR0.out.2.2 (by omega)
      cases e1
      obtain ⟨cs, hcs1, ⟨A1, c1, rfl, hle1, hC1⟩, hcs3⟩ := hcs kk l0[kk] (List.getElem?_eq_getElem hlt')
      have hx0 : w.cell? (ad.add kk) = some (.slice A1 l0[kk].length c1) := by
        have h9 := hcs3 0 _ rfl
        rw [show kk * (Kd.slice 61 k61).sz + 0 = kk from Nat.mul_one kk] at h9
        exact h9
      replace hx0 := (HB.out.cell (World.block_lt_of_cell? w _ hx0)).trans hx0
      have hrow := HS.out.2 l0[kk] (List.getElem_mem hlt')
      have htk : ∀ s, cntN (l0.take (kk + 1)) s = putN (cntN (l0.take kk)) (nameL l0[kk]) (cntN (l0.take kk) (nameL l0[kk]) + 1) s := fun s => by
        rw [List.take_add_one, List.getElem?_eq_getElem hlt']
        exact cntN_snoc _ _ _
      have hcb := cntN_le (l0.take kk) (nameL l0[kk])
      have hcall := rows_Name.calls A1 c1 l0[kk] (ofL (nameL l0[kk])) wr (HLD.out.below HB.out) (Kd.C_below hC1 HB.out) hle1 (by unfold rows_Name.f; rw [if_pos hrow])
      have hns : (ofL (nameL l0[kk])).size ≤ 403000 := by
        rw [ofL_size]
        have h8 := okRow_spec hrow
        have := nameL_len _ h8.2
        have := Nat.mul_le_mul_right 403 h8.1
        omega
      clear hcs3 hcs1 hC1 hle1
      generalize l0[kk] = y at hx0 hrow htk hcb hcall hns
      have hlk : (l0.take kk).length ≤ 1000000 := by rw [List.length_take]; omega
      obtain ⟨c, hc⟩ : ∃ c, c = cntN (l0.take kk) (nameL y) := ⟨_, rfl⟩
      rw [← hc] at hcb htk
      have q0 : 0 ≤ c := hcb.1
      have q1 : c ≤ 1000000 := by have := hcb.2; omega
      have HC := Aside0.mk hcall
      have HT := Aside0.mk htk
      have HCE := Aside0.mk hc
      have HNS := Aside0.mk hns
      have HSE : Aside0 ((ofL (nameL y)).data.toList = nameL y) := ⟨rfl⟩
      clear hcall htk hc hns hcb hrow hlk hlt'
      generalize ofL (nameL y) = s at HC HNS HSE
      generalize y.length = ylen at hx0 HC
      go_wp2_with (first
        | (go_at_call 92; refine HC.out.mono ?_; rintro e w2 ⟨rfl, hb2⟩; have HB2 := Aside0.mk (below_step HB.out hb2); have HM2 := Aside0.mk (mapIs_below HM.out hb2); clear hb2)
        | (at_lookup; refine mapIs_lookup rfl _ _ rfl _ _ _ rfl HM2.out s (by have := HNS.out; simp only [maxLen]; omega) rfl c (by rw [HSE.out]; exact HCE.out.symm) ?_)
        | (at_mapUpdate; refine mapIs_update rfl _ _ _ rfl _ _ _ rfl HM2.out (by simp only [maxLen]; omega) s (by have := HNS.out; simp only [maxLen]; omega) rfl (c + 1) rfl (wfI (by omega) (by omega)) ?_; intro w3 hm3 hg3; have HM3 := Aside0.mk hm3; have HB3 := Aside0.mk (HB2.out.grown hg3 HB2.out.size (by intro k hk; injection hk with hk; omega)); clear hm3 hg3))
      go_roundg (n - (kk + 1))
      case measure => omega
      case rel =>
        refine ⟨kk + 1, by omega, by omega, by go_num, HB3, ⟨mapIs_congr HM3.out fun t => ?_⟩⟩
        rw [HSE.out, HT.out]
    · have hltz : decide (kk < n) = false := by simpa using hlt
      have HM2 : Aside0 (MapIs wr w.heap.size n (cntN l0)) := ⟨by
        have h9 := HM.out
        rw [List.take_of_length_le (by have := HN.out; omega), show kk = n by omega] at h9
        exact h9⟩
      clear hlt HM
      go_wp2
      go_ret
      exact ⟨rfl, HM2.out, HB.out⟩
set_option maxHeartbeats 1000000 in
set_option maxRecDepth 100000 in
theorem cloneV.calls (A0 : Option Addr) (c0 : Nat) (l0 : List V) (w : World) (hr0 : Kd.C k61 w A0 l0.length l0) (hlen : l0.length ≤ 4398046511104) :
    Calls Tryz.prog 93 #[.slice A0 l0.length c0] w fun e w' => ∃ v0_ : Value, e = .returned v0_ ∧ Kd.R k61 61 w' w.heap.size (fun _ => True) v0_ l0 ∧ Below w.heap.size w w' := by
  have q22 : ∀ (w : World) (a : Option Addr) (n c n' c' : Nat), (binOp .eql 40 (.slice a n c) (.slice none n' c')).run Tryz.prog w = .ok (.bool a.isNone) w := fun w a n c n' c' => Lib.run_eql_slice_nil w _ _ a n c n' c' Tryz.underlying40
  cases A0 with
  | none =>
    have h0 : l0 = [] := by
      rcases Nat.eq_zero_or_pos l0.length with h | h
      · exact List.length_eq_zero_iff.1 h
      · obtain ⟨ad, e, _⟩ := hr0.2.2 h; cases e
    subst h0
    clear hr0 hlen
    go_enter Tryz.func93, Tryz.ntmps93
    go_wp2
    go_ret
    exact ⟨_, rfl, Kd.R_nil _ _ _ _ _, Below.refl _ _⟩
  | some ad =>
    have hcells : ∀ j u, (l0.flatMap encV)[j]? = some u → w.cell? (ad.add j) = some u := by
      intro j u hj
      have hj2 : j < l0.length * 3 := by
        rcases Nat.lt_or_ge j (l0.length * 3) with h | h
        · exact h
        · rw [List.getElem?_eq_none (by rw [flat_length]; exact h)] at hj; cases hj
      obtain ⟨ad', e, hc⟩ := hr0.2.2 (by omega)
      obtain rfl := Option.some.inj e
      have hq : j / 3 < l0.length := by omega
      obtain ⟨c, hc1, hc2, hc3⟩ := hc (j / 3) l0[j / 3] (List.getElem?_eq_getElem hq)
      have hc4 := k61_open hc2
      have hc5 := hc3 (j % 3) u (by
        rw [flat_get l0 j hj2] at hj
        have e : l0.toArray[j / 3]! = l0[j / 3] := by simp [hq]
        rw [e] at hj
        rw [hc4, ← hj]
        have : j % 3 = 0 ∨ j % 3 = 1 ∨ j % 3 = 2 := by omega
        rcases this with e | e | e <;> rw [e] <;> rfl)
      have e3 : j / 3 * k61.sz + j % 3 = j := by show j / 3 * 3 + j % 3 = j; omega
      rw [e3] at hc5
      exact hc5
    obtain ⟨i0, hi0, hz0, hs0, hb0⟩ : ∃ i, Tryz.prog.info? 61 = some i ∧ i.zero = some (.agg #[(.int .i64 0), (.int .i64 0), (.string ⟨#[]⟩)]) ∧ i.size = 3 ∧ i.bytes = 32 := by
      have h := info61
      cases hi : Tryz.prog.info? 61 with
      | none => rw [hi] at h; cases h
      | some i =>
        rw [hi] at h
        simp only [Option.map_some, Option.some.injEq, Prod.mk.injEq] at h
        exact ⟨i, rfl, h.1, h.2.1, h.2.2⟩
    have HI := Aside0.mk (And.intro hi0 (And.intro hz0 (And.intro hs0 hb0)))
    clear hi0 hz0 hs0 hb0
    have A := Aside0.mk hcells
    have HL := Aside0.mk hlen
    clear hr0 hcells hlen
    obtain ⟨n, hn⟩ : ∃ n, n = l0.length := ⟨_, rfl⟩
    rw [← hn]
    have HN := Aside0.mk hn
    clear hn
    go_enter Tryz.func93, Tryz.ntmps93
    go_wp2_with (at_builtin; refine wpList_append_own _ rfl _ _ 40 rfl w.heap.size 61 i0 (.agg #[(.int .i64 0), (.int .i64 0), (.string ⟨#[]⟩)]) 3 32 Tryz.underlying40 HI.out.1 HI.out.2.1 HI.out.2.2.1 HI.out.2.2.2 rfl (by decide) _ _ _ rfl (World.ownsRow_made w #[] 0 (Nat.le_refl _) (Nat.zero_le _) (by simp)) ad n c0 (l0.flatMap encV) rfl ?qc1 ?qc2 ?qc3 ?qc4 ?qc5 ?qc6 ?_)
    case qc1 => rw [flat_length, HN.out]
    case qc2 => exact fun j u hj => Lib.cell?_alloc_some _ (A.out j u hj)
    case qc3 =>
      intro u hu
      obtain ⟨x, _, hx⟩ := List.mem_flatMap.1 hu
      exact encV_one x u hx
    case qc4 => have := HN.out; have := HL.out; simp only [maxLen]; omega
    case qc5 => have := HN.out; have := HL.out; omega
    case qc6 => simp
    intro v' w1 hown hgrow hnil
    go_wp2
    go_ret
    refine ⟨v', rfl, ⟨fun _ _ => trivial, l0.flatMap encV, ?_, flat_reps _ _ _ l0⟩, ?_⟩
    · have h2 := hown
      rw [HN.out] at h2
      exact h2
    · exact ((Below.refl _ w).alloc (Nat.le_refl _) _).grown hgrow (by simp) (by intro k hk; simp [Value.ownBlock] at hk; omega)
def api_Value_93.f (l0 : List V) : Option (List V) := if l0.length ≤ 4398046511104 then some l0 else none
theorem api_Value_93.calls (A0 : Option Addr) (c0 : Nat) (l0 : List V) (r : List V) (w : World) (hr0 : Kd.C k61 w A0 l0.length l0) (_hc0 : l0.length ≤ c0) (h : api_Value_93.f l0 = some r) :
    Calls Tryz.prog 93 #[.slice A0 l0.length c0] w fun e w' => ∃ v0_ : Value, e = .returned v0_ ∧ Kd.R k61 61 w' w.heap.size (fun _ => True) v0_ r ∧ Below w.heap.size w w' := by
  unfold api_Value_93.f at h
  by_cases hl : l0.length ≤ 4398046511104
  · rw [if_pos hl] at h
    obtain rfl := Option.some.inj h
    exact cloneV.calls A0 c0 l0 w hr0 hl
  · rw [if_neg hl] at h; cases h
def rows_Copy.l0 : Nat → List (List (S61)) → List (List (S61)) → Int → Int → Option ((List (List (S61))))
  | 0, _, _, _, _ => none
  | k + 1, x3, x6, x7, x8 => if x8 < x7 then (if 0 ≤ x8 then (if x8 < (x6.length : Int) then ((api_Value_93.f (rd_L3 x6 x8)).bind fun t118 => (if x3.length < 5864062014805 then (rows_Copy.l0 k (x3 ++ [t118]) x6 x7 (wrap64 (x8 + 1))) else (none))) else (none)) else (none)) else (some x3)
def rows_Copy.f (k : Nat) (l0 : List (List (S61))) : Option ((List (List (S61)))) := rows_Copy.l0 k ([] : List (List (S61))) l0 (l0.length : Int) 0
set_option maxHeartbeats 8000000 in
set_option maxRecDepth 100000 in
theorem rows_Copy.calls (k : Nat) (A0 : Option Addr) (c0 : Nat) (l0 : List (List (S61))) (r : List (List (S61))) (w : World) (hr0 : Kd.C (Kd.slice 61 k61) w A0 l0.length l0) (hc0 : l0.length ≤ c0) (h : rows_Copy.f k l0 = some r) :
    Calls Tryz.prog 59 #[.slice A0 l0.length c0] w fun e w' => ∃ v0_ : Value, e = .returned (v0_) ∧ Kd.S (Kd.slice 61 k61) 40 w' w.heap.size (fun _ => True) v0_ r ∧ Below w.heap.size w w' := by
  have HR0 := Aside0.mk hr0
  have HC0 := Aside0.mk hc0
  clear hr0 hc0
  have HB := Aside0.mk (Below.refl w.heap.size w)
  have H : (rows_Copy.l0 k ([] : List (List (S61))) l0 (l0.length : Int) 0) = some r := h
  clear h
  have H' := Aside0.mk H
  clear H
  go_enter Tryz.func59, Tryz.ntmps59
  go_wp2
  go_loopg [3, 8] k (fun kq v3 v8 w' => ∃ (x3_1 : List (List (S61))) (x8_1 : Int), v8 = .int .i64 x8_1 ∧ Aside0 (rows_Copy.l0 kq x3_1 l0 (l0.length : Int) x8_1 = some r) ∧ Aside0 (kq ≤ k) ∧ Aside0 (Kd.S (Kd.slice 61 k61) 40 w' w.heap.size (fun _ => True) v3 x3_1) ∧ Aside0 (Below w.heap.size w w'))
  case atStart => exact ⟨(([] : List (List (S61)))), (0), (by first | rfl | (simp; done) | (simp [*]; done)), H', ⟨Nat.le_refl _⟩, ⟨by first | exact Kd.S_nil _ _ _ _ _ | exact Kd.N_nil _ _ _ _ _ | exact Kd.V_nil _ _ _ _ _ | exact Kd.Q_nil _ _ _ _ _ | exact Kd.R_nil _ _ _ _ _⟩, ⟨by repeat (first | (with_reducible first | exact HB.out | apply yA | apply yN | apply yD) | exact HB.out)⟩⟩
  case round =>
    clear H'
    obtain ⟨x3_1, x8_1, rfl, HA, HK1, HO_3, HB⟩ := hrel
    cases gk with
    | zero => exact absurd HA.out (by simp [rows_Copy.l0])
    | succ k1 =>
      have H := HA.out
      clear HA
      simp only [rows_Copy.l0] at H
      by_cases c2 : x8_1 < (l0.length : Int)
      · rw [if_pos c2] at H
        have c2b0 : decide (x8_1 < (l0.length : Int)) = true := decide_eq_true c2
        clear c2
        by_cases c3 : 0 ≤ x8_1
        · rw [if_pos c3] at H
          have c3b0 : decide (0 ≤ x8_1) = true := decide_eq_true c3
          clear c3
          by_cases c4 : x8_1 < (l0.length : Int)
          · rw [if_pos c4] at H
            have c4b0 : decide (x8_1 < (l0.length : Int)) = true := decide_eq_true c4
            clear c4
            replace H := Option.bind_eq_some_iff.mp H
            obtain ⟨t118, A50, H⟩ := H
            replace H : (if x3_1.length < 5864062014805 then (rows_Copy.l0 k1 (x3_1 ++ [t118]) l0 (l0.length : Int) (wrap64 (x8_1 + 1))) else (none)) = some r := H
            have A5 := Aside0.mk A50
            clear A50
            by_cases c6 : x3_1.length < 5864062014805
            · rw [if_pos c6] at H
              have LMc6 := Aside0.mk c6
              clear c6
              obtain ⟨y121, hy121⟩ : ∃ y_ : List (List (S61)), y_ = (x3_1 ++ [t118]) := ⟨_, rfl⟩
              replace H : (rows_Copy.l0 k1 y121 l0 (l0.length : Int) (wrap64 (x8_1 + 1))) = some r := by first | (rw [hy121]; with_reducible exact H) | (have H2_ := (Option.bind_some _ _).symm.trans H; rw [hy121]; with_reducible exact H2_) | (have H2_ := (Option.bind_some _ _).symm.trans H; with_reducible exact H2_) | with_reducible exact H | (rw [hy121]; exact H) | exact H
              have Ny121 := Aside0.mk hy121
              clear hy121
              have H' := Aside0.mk H
              clear H
              have p117 : 0 ≤ (x8_1 : Int) := of_decide_eq_true (by first | (with_reducible assumption) | assumption)
              have q117 : x8_1 < (l0.length : Int) := of_decide_eq_true (by first | (with_reducible assumption) | assumption)
              obtain ⟨ad117, A117_0, c117_0, e117, hx117_0, hl117_0, hi117_0⟩ := at_L3 HR0.out x8_1 p117 q117
              cases e117
              replace hx117_0 := (HB.out.cell (World.block_lt_of_cell? w _ hx117_0)).trans hx117_0
              have HR117_0 := Aside0.mk hi117_0
              have HC117_0 := Aside0.mk hl117_0
              clear hi117_0 hl117_0
              replace p117 := eq_true p117
              replace q117 := eq_true q117
              go_wp2_with (first | ((with_reducible refine gate_callee (f := 93) rfl ?_); refine goesL_ (some 14) rfl rfl Tryz.func93 (by kernel_rfl) rfl #[.slice A117_0 (rd_L3 l0 x8_1).length c117_0] rfl (by (try simp only [List.map_toArray, List.map_cons, List.map_nil]); first | done | rfl | (simp only [List.length_drop, List.length_take]; rfl)) ?_; (with_reducible refine (api_Value_93.calls _ _ (rd_L3 l0 x8_1) t118 _ ?side1 ?side2 A5.out).mono ?_); (case side1 => repeat (first | exact (Kd.C_below HR117_0.out HB.out) | (with_reducible refine Kd.C_alloc ?_ _) | (with_reducible refine Kd.C_drewN ?_ _) | (with_reducible refine Kd.C_drew ?_))); (case side2 => exact HC117_0.out); rintro e w7 ⟨v119, rfl, ho0, hb⟩; refine ⟨_, rfl, ?_⟩; have n0_ := Aside0.mk (Kd.S_elder' (by (with_reducible repeat (first | apply Kd.S_alloc | apply Kd.S_drewN | apply Kd.S_drew)); exact HO_3.out) (Kd.R_base ho0) hb); have n1_ := Aside0.mk (Kd.R_lower ho0 (below_size (by repeat (first | (with_reducible first | exact HB.out | apply yA | apply yN | apply yD) | exact HB.out)))); have n2_ := Aside0.mk (below_step (by repeat (first | (with_reducible first | exact HB.out | apply yA | apply yN | apply yD) | exact HB.out)) hb); clear HO_3; clear HB; have HO_3 := n0_; have HO120 := n1_; have HB := n2_; clear n0_ n1_ n2_; (try clear hb); (try clear hb2); (try clear hk); (try clear hi); (try clear ho0); obtain ⟨Ao9, co9, eo9⟩ := Kd.R_slice HO120.out; subst eo9) | ((with_reducible refine gate_builtin (b := .append) (xs := #[.tmp 12, .tmp 15]) rfl ?_); at_builtin; refine Kd.S_append (Kd.slice 61 k61) (w0 := w) w.heap.size rfl (.tmp 12) (.tmp 15) 22 40 (.slice none 0 0) 24 rfl Tryz.underlying22 info40 rfl (by decide) (by omega) u3 x3_1 t118 [.slice Ao9 t118.length co9] (fun _ => True) (fun k_ => some k_ = (.slice Ao9 t118.length co9 : Value).ownBlock) rfl rfl ?aP (fun k_ hk_ => ((Kd.R_mono (ok' := fun k_ => ((fun _ => True)) k_ ∧ some k_ ≠ (u3 : Value).ownBlock) (Kd.R_apart' (HO120.out) (Kd.S_typed HO_3.out) (by decide)) (fun k_ hk => ⟨trivial, hk.2⟩))).1 k_ hk_.symm) ?aF ?aO ?aB ?aS ?aL ?_; (case aP => exact Kd.M_row (Kd.R_mono (Kd.R_tight rfl (Kd.R_mono (ok' := fun k_ => ((fun _ => True)) k_ ∧ some k_ ≠ (u3 : Value).ownBlock) (Kd.R_apart' (HO120.out) (Kd.S_typed HO_3.out) (by decide)) (fun k_ hk => ⟨trivial, hk.2⟩))) (fun _ h_ => h_))); (case aB => exact (by repeat (first | (with_reducible first | exact HB.out | apply yA | apply yN | apply yD) | exact HB.out))); (case aF => exact (fun _ _ => trivial)); (case aO => exact (by (with_reducible repeat (first | apply Kd.S_alloc | apply Kd.S_drewN | apply Kd.S_drew)); exact Kd.S_mono HO_3.out (fun k_ hk => ⟨trivial, fun e_ => hk.2 e_⟩))); (case aS => exact (below_size (by repeat (first | (with_reducible first | exact HB.out | apply yA | apply yN | apply yD) | exact HB.out)))); (case aL => have := LMc6.out; omega); intro v122 w8 ho hb hg hat; rw [← Ny121.out] at ho; have n0_ := Aside0.mk (hb); have n1_ := Aside0.mk (ho); clear HB; clear HO_3; clear HO120; have HB := n0_; have HO123 := n1_; clear n0_ n1_; clear ho hb hg hat))
              go_roundg k1
              case measure => have := HK1.out; omega
              case rel => exact ⟨(y121), (wrap64 (x8_1 + 1)), (by first | rfl | (simp; done) | (simp [*]; done)), H', ⟨by have := HK1.out; omega⟩, ⟨by (with_reducible repeat (first | apply Kd.S_alloc | apply Kd.S_drewN | apply Kd.S_drew)); exact HO123.out⟩, ⟨by repeat (first | (with_reducible first | exact HB.out | apply yA | apply yN | apply yD) | exact HB.out)⟩⟩
            · rw [if_neg c6] at H
              exact absurd H (by simp)
          · rw [if_neg c4] at H
            exact absurd H (by simp)
        · rw [if_neg c3] at H
          exact absurd H (by simp)
      · rw [if_neg c2] at H
        have c2b0 : decide (x8_1 < (l0.length : Int)) = false := decide_eq_false c2
        clear c2
        obtain rfl := Option.some.inj H
        go_wp2
        go_ret
        exact ⟨_, by first | rfl | (simp [errW_none, errW_some] <;> rfl) | (simp [*, errW_none, errW_some] <;> rfl), by (with_reducible repeat (first | apply Kd.S_alloc | apply Kd.S_drewN | apply Kd.S_drew)); exact HO_3.out, by repeat (first | (with_reducible first | exact HB.out | apply yA | apply yN | apply yD) | exact HB.out)⟩
theorem rd_L3_at (l : List (List V)) (k : Nat) (h : k < l.length) : rd_L3 l (k : Int) = l[k] := by
  unfold rd_L3
  simp [h]
theorem rows_Copy.l0_at (l : List (List V)) (hl : okR l = true) : ∀ (d i k : Nat), i + d = l.length → d < k → rows_Copy.l0 k (l.take i) l (l.length : Int) (i : Int) = some l := by
  have hl' := okR_spec hl
  intro d
  induction d with
  | zero =>
    intro i k hi hk
    obtain ⟨k, rfl⟩ : ∃ m, k = m + 1 := ⟨k - 1, by omega⟩
    simp only [rows_Copy.l0]
    rw [if_neg (by omega), List.take_of_length_le (by omega)]
  | succ d ih =>
    intro i k hi hk
    obtain ⟨k, rfl⟩ : ∃ m, k = m + 1 := ⟨k - 1, by omega⟩
    have hlt : i < l.length := by omega
    have hr := hl'.2 l[i] (List.getElem_mem hlt)
    simp only [rows_Copy.l0]
    unfold api_Value_93.f
    rw [if_pos (by omega), if_pos (by omega), if_pos (by omega), rd_L3_at l i hlt, if_pos (by omega), Option.bind_some, if_pos (by rw [List.length_take]; have := hl'.1; omega), wrap_small (by omega) (by have := hl'.1; omega)]
    rw [show ((i : Int) + 1) = ((i + 1 : Nat) : Int) by omega, show l.take i ++ [l[i]] = l.take (i + 1) by rw [List.take_add_one, List.getElem?_eq_getElem hlt]; rfl]
    exact ih (i + 1) k (by omega) (by omega)
def rows_Copy_s.f (l0 : List (List V)) : Option (List (List V)) := if okR l0 = true then some l0 else none
theorem rows_Copy_s.calls (A0 : Option Addr) (c0 : Nat) (l0 : List (List V)) (r : List (List V)) (w : World) (hr0 : Kd.C (Kd.slice 61 k61) w A0 l0.length l0) (hc0 : l0.length ≤ c0) (h : rows_Copy_s.f l0 = some r) :
    Calls Tryz.prog 59 #[.slice A0 l0.length c0] w fun e w' => ∃ v0_ : Value, e = .returned (v0_) ∧ Kd.S (Kd.slice 61 k61) 40 w' w.heap.size (fun _ => True) v0_ r ∧ Below w.heap.size w w' := by
  unfold rows_Copy_s.f at h
  by_cases hs : okR l0 = true
  · rw [if_pos hs] at h
    obtain rfl := Option.some.inj h
    exact rows_Copy.calls (l0.length + 1) A0 c0 l0 _ w hr0 hc0 (rows_Copy.l0_at l0 hs l0.length 0 (l0.length + 1) (by omega) (by omega))
  · rw [if_neg hs] at h; cases h
set_option maxHeartbeats 1000000 in
set_option maxRecDepth 100000 in
theorem cloneR.calls {α : Type} (d : Kd α) (hsz : d.sz = 1) (v : Value) (xs : List α) (w : World) (base : Nat) (ok : Nat → Prop) (h : Kd.S d 40 w base ok v xs) (hbase : base ≤ w.heap.size) (hlen : xs.length ≤ 4398046511104) :
  Calls Tryz.prog 144 #[v] w fun e w' => ∃ v0_ : Value, e = .returned v0_ ∧ Kd.S d 40 w' base (fun _ => True) v0_ xs ∧ Below w.heap.size w w' := by
 have q22 : ∀ (w : World) (a : Option Addr) (n c n' c' : Nat), (binOp .eql 22 (.slice a n c) (.slice none n' c')).run Tryz.prog w = .ok (.bool a.isNone) w := fun w a n c n' c' => Lib.run_eql_slice_nil w _ _ a n c n' c' Tryz.underlying22
 obtain ⟨A0, c0, rfl⟩ := Kd.S_slice h
 cases A0 with
 | none =>
  have h0 : xs = [] := by
   rcases Nat.eq_zero_or_pos xs.length with h9 | h9
   ·exact List.length_eq_zero_iff.1 h9
   ·obtain ⟨g, cap, e, _⟩ := Kd.S_form h h9
    cases e
  subst h0
  clear h hlen
  go_enter Tryz.func144, Tryz.ntmps144
  go_wp2
  go_ret
  exact ⟨_, rfl, Kd.S_nil _ _ _ _ _, Below.refl _ _⟩
 | some ad =>
  obtain ⟨cs, hc1, hc2, hc3, hc4⟩ := S_cells hsz h hbase
  obtain ⟨i0, hi0, hz0, hs0, hb0⟩ : ∃ i, Tryz.prog.info? 40 = some i ∧ i.zero = some (.slice none 0 0) ∧ i.size = 1 ∧ i.bytes = 24 := by
   have h := info40
   cases hi : Tryz.prog.info? 40 with
   | none => rw [hi] at h; cases h
   | some i =>
    rw [hi] at h
    simp only [Option.map_some, Option.some.injEq, Prod.mk.injEq] at h
    exact ⟨i, rfl, h.1, h.2.1, h.2.2⟩
  have HI := Aside0.mk (And.intro hi0 (And.intro hz0 (And.intro hs0 hb0)))
  clear hi0 hz0 hs0 hb0
  have A := Aside0.mk (hc3 ad rfl)
  have HL := Aside0.mk hlen
  have H1 := Aside0.mk hc1
  have H2 := Aside0.mk hc2
  have H4 := Aside0.mk hc4
  clear h hc1 hc2 hc3 hc4 hlen hbase
  obtain ⟨n, hn⟩ : ∃ n, n = xs.length := ⟨_, rfl⟩
  rw [← hn]
  have HN := Aside0.mk hn
  clear hn
  go_enter Tryz.func144, Tryz.ntmps144
  go_wp2_with (at_builtin; refine wpList_append_own _ rfl _ _ 22 rfl w.heap.size 40 i0 (.slice none 0 0) 1 24 Tryz.underlying22 HI.out.1 HI.out.2.1 HI.out.2.2.1 HI.out.2.2.2 rfl (by decide) _ _ _ rfl (World.ownsRow_made w #[] 0 (Nat.le_refl _) (Nat.zero_le _) (by simp)) ad n c0 cs rfl ?qc1 ?qc2 ?qc3 ?qc4 ?qc5 ?qc6 ?_)
  case qc1 => rw [H1.out, HN.out, Nat.mul_one]
  case qc2 => exact fun j u hj => Lib.cell?_alloc_some _ (A.out j u hj)
  case qc3 => exact H2.out
  case qc4 => have := HN.out; have := HL.out; simp only [maxLen]; omega
  case qc5 => have := HN.out; have := HL.out; omega
  case qc6 => simp
  intro v' w1 hown hgrow hnil
  go_wp2
  go_ret
  have hb : Below w.heap.size w w1 := ((Below.refl _ w).alloc (Nat.le_refl _) _).grown hgrow (by simp) (by intro k hk; simp [Value.ownBlock] at hk; omega)
  refine ⟨v', rfl, H4.out w1 v' hb ?_, hb⟩
  have h2 := hown
  rw [HN.out] at h2
  simpa using h2
end Go.Proofs.YtmhobbdedmjmnaaGreatDoor.Q
end
section
/- Each function reached is shown to return what the plain function beside it computes, wherever that is defined (written by a program of ours for this seat). -/
namespace Go.Proofs.YtmhobbdedmjmnaaGreatDoor.Q
open Go.RowKit Go.Proofs.YtmhobbdedmjmnaaGreatDoorW.PrintWords Go.Proofs.YtmhobbdedmjmnaaGreatDoorW.PrintLast Go.Proofs.YtmhobbdedmjmnaaGreatDoorW.PrintMore
attribute [local go_sem] max2_int min2_int max_two min_two max_three min_three max_four min_four   -- for this text's walks alone
set_option linter.unusedVariables false
set_option linter.unusedSimpArgs false
def cmp_Or_int.l0 : Nat → Int → List Int → Int → Int → Option (Int)
  | 0, _, _, _, _ => none
  | k + 1, x3, x6, x7, x8 => if x8 < x7 then (if 0 ≤ x8 then (if x8 < (x6.length : Int) then (if (rd x6 x8) = x3 then (cmp_Or_int.l0 k x3 x6 x7 (wrap64 (x8 + 1))) else (some (rd x6 x8))) else (none)) else (none)) else (some x3)
def cmp_Or_int.f (k : Nat) (l0 : List Int) : Option (Int) := cmp_Or_int.l0 k 0 l0 (l0.length : Int) 0
set_option maxHeartbeats 8000000 in
set_option maxRecDepth 100000 in
theorem cmp_Or_int.calls (k : Nat) (A0 : Option Addr) (c0 : Nat) (l0 : List Int) (r : Int) (w : World) (hr0 : Kd.C (Kd.int .i64) w A0 l0.length l0) (hc0 : l0.length ≤ c0) (h : cmp_Or_int.f k l0 = some r) :
    Calls Tryz.prog 109 #[.slice A0 l0.length c0] w fun e w' => e = .returned (.int .i64 r) ∧ Drawn0 w w' := by
  have HR0 := Aside0.mk hr0
  have HC0 := Aside0.mk hc0
  clear hr0 hc0
  have H : (cmp_Or_int.l0 k 0 l0 (l0.length : Int) 0) = some r := h
  clear h
  have H' := Aside0.mk H
  clear H
  go_enter Tryz.func109, Tryz.ntmps109
  go_wp2
  go_loopg [8] k (fun kq v8 w' => ∃ (x8_1 : Int), v8 = .int .i64 x8_1 ∧ Aside0 (cmp_Or_int.l0 kq 0 l0 (l0.length : Int) x8_1 = some r) ∧ Aside0 (kq ≤ k) ∧ Drawn0 w w')
  case atStart => exact ⟨(0), (by first | rfl | (simp; done) | (simp [*]; done)), H', ⟨Nat.le_refl _⟩, by repeat (first | exact Drawn0.refl _ | apply Drawn0.step)⟩
  case round =>
    clear H'
    try clear c1
    obtain ⟨x8_1, rfl, HA, HK1, ⟨m1, rfl⟩⟩ := hrel
    cases gk with
    | zero => exact absurd HA.out (by simp [cmp_Or_int.l0])
    | succ k1 =>
      have H := HA.out
      clear HA
      simp only [cmp_Or_int.l0] at H
      by_cases c2 : x8_1 < (l0.length : Int)
      · rw [if_pos c2] at H
        have c2b0 : decide (x8_1 < (l0.length : Int)) = true := decide_eq_true c2
        clear c2
        by_cases c3 : 0 ≤ x8_1
        · rw [if_pos c3] at H
          have c3b0 : decide (0 ≤ x8_1) = true := decide_eq_true c3
          clear c3
          by_cases c4 : x8_1 < (l0.length : Int)
          · rw [if_pos c4] at H
            have c4b0 : decide (x8_1 < (l0.length : Int)) = true := decide_eq_true c4
            clear c4
            by_cases c5 : (rd l0 x8_1) = 0
            · rw [if_pos c5] at H
              have c5b0 : ((rd l0 x8_1) == 0) = true := beq_iff_eq.mpr c5
              have c5b1 : ((rd l0 x8_1) != 0) = false := bne_eq_false_iff_eq.mpr c5
              clear c5
              have H' := Aside0.mk H
              clear H
              have p124 : 0 ≤ (x8_1 : Int) := of_decide_eq_true (by first | (with_reducible assumption) | assumption)
              have q124 : x8_1 < (l0.length : Int) := of_decide_eq_true (by first | (with_reducible assumption) | assumption)
              obtain ⟨ad124, e124, hx124_0⟩ := Kd.at_int HR0.out x8_1 p124 q124
              cases e124
              replace p124 := eq_true p124
              replace q124 := eq_true q124
              go_wp2
              go_roundg k1
              case measure => have := HK1.out; omega
              case rel => exact ⟨(wrap64 (x8_1 + 1)), (by first | rfl | (simp; done) | (simp [*]; done)), H', ⟨by have := HK1.out; omega⟩, by repeat (first | exact Drawn0.refl _ | apply Drawn0.step)⟩
            · rw [if_neg c5] at H
              have c5b0 : ((rd l0 x8_1) == 0) = false := beq_eq_false_iff_ne.mpr c5
              have c5b1 : ((rd l0 x8_1) != 0) = true := bne_iff_ne.mpr c5
              obtain rfl := Option.some.inj H
              have p124 : 0 ≤ (x8_1 : Int) := of_decide_eq_true (by first | (with_reducible assumption) | assumption)
              have q124 : x8_1 < (l0.length : Int) := of_decide_eq_true (by first | (with_reducible assumption) | assumption)
              obtain ⟨ad124, e124, hx124_0⟩ := Kd.at_int HR0.out x8_1 p124 q124
              cases e124
              replace p124 := eq_true p124
              replace q124 := eq_true q124
              go_wp2
              go_ret
              exact ⟨by first | rfl | (simp; done) | (simp [*]; done), by repeat (first | exact Drawn0.refl _ | apply Drawn0.step)⟩
          · rw [if_neg c4] at H
            exact absurd H (by simp)
        · rw [if_neg c3] at H
          exact absurd H (by simp)
      · rw [if_neg c2] at H
        have c2b0 : decide (x8_1 < (l0.length : Int)) = false := decide_eq_false c2
        clear c2
        obtain rfl := Option.some.inj H
        go_wp2
        go_ret
        exact ⟨by first | rfl | (simp; done) | (simp [*]; done), by repeat (first | exact Drawn0.refl _ | apply Drawn0.step)⟩
def api_Kind_159.f (a0 : Int) : Option (Bool) := some (a0 != a0)
set_option maxHeartbeats 8000000 in
set_option maxRecDepth 100000 in
theorem api_Kind_159.calls (a0 : Int) (r : Bool) (w : World) (h : api_Kind_159.f a0 = some r) :
    Calls Tryz.prog 159 #[.int .i64 a0] w fun e w' => e = .returned (.bool r) ∧ Drawn0 w w' := by
  have H : (some (a0 != a0)) = some r := h
  clear h
  obtain rfl := Option.some.inj H
  go_enter Tryz.func159, Tryz.ntmps159
  go_wp2
  go_ret
  exact ⟨by first | rfl | (simp; done) | (simp [*]; done), by repeat (first | exact Drawn0.refl _ | apply Drawn0.step)⟩
def api_Kind_136.f (a0 : Int) (a1 : Int) : Option (Int) := (api_Kind_159.f a0).bind fun t125 => ((api_Kind_159.f a1).bind fun t126 => (if t125 = true then (if t126 = true then (some 0) else (some (-1))) else (if t126 = true then (some 1) else (if a0 < a1 then (some (-1)) else (if a0 > a1 then (some 1) else (some 0))))))
set_option maxHeartbeats 8000000 in
set_option maxRecDepth 100000 in
theorem api_Kind_136.calls (a0 : Int) (a1 : Int) (r : Int) (w : World) (h : api_Kind_136.f a0 a1 = some r) :
    Calls Tryz.prog 136 #[.int .i64 a0, .int .i64 a1] w fun e w' => e = .returned (.int .i64 r) ∧ Drawn0 w w' := by
  have H : ((api_Kind_159.f a0).bind fun t125 => ((api_Kind_159.f a1).bind fun t126 => (if t125 = true then (if t126 = true then (some 0) else (some (-1))) else (if t126 = true then (some 1) else (if a0 < a1 then (some (-1)) else (if a0 > a1 then (some 1) else (some 0))))))) = some r := h
  clear h
  replace H := Option.bind_eq_some_iff.mp H
  obtain ⟨t125, A30, H⟩ := H
  replace H : ((api_Kind_159.f a1).bind fun t126 => (if t125 = true then (if t126 = true then (some 0) else (some (-1))) else (if t126 = true then (some 1) else (if a0 < a1 then (some (-1)) else (if a0 > a1 then (some 1) else (some 0)))))) = some r := H
  have A3 := Aside0.mk A30
  clear A30
  replace H := Option.bind_eq_some_iff.mp H
  obtain ⟨t126, A40, H⟩ := H
  replace H : (if t125 = true then (if t126 = true then (some 0) else (some (-1))) else (if t126 = true then (some 1) else (if a0 < a1 then (some (-1)) else (if a0 > a1 then (some 1) else (some 0))))) = some r := H
  have A4 := Aside0.mk A40
  clear A40
  by_cases c5 : t125 = true
  · subst c5
    have H1 : (if t126 = true then (some 0) else (some (-1))) = some r := by rw [if_pos rfl] at H; exact H
    clear H
    have H := H1
    clear H1
    by_cases c6 : t126 = true
    · subst c6
      have H1 : (some 0) = some r := by rw [if_pos rfl] at H; exact H
      clear H
      have H := H1
      clear H1
      obtain rfl := Option.some.inj H
      go_enter Tryz.func136, Tryz.ntmps136
      go_wp2_with (first | ((with_reducible refine gate_callee (f := 159) rfl ?_); refine goesL_ (some 8) rfl rfl Tryz.func159 (by kernel_rfl) rfl #[.int .i64 a0] rfl (by (try simp only [List.map_toArray, List.map_cons, List.map_nil]); first | done | rfl | (simp only [List.length_drop, List.length_take]; rfl)) ?_; (with_reducible refine (api_Kind_159.calls a0 true _ A3.out).mono ?_); rintro e w' ⟨rfl, ⟨nd, rfl⟩⟩; refine ⟨_, rfl, ?_⟩) | ((with_reducible refine gate_callee (f := 159) rfl ?_); refine goesL_ (some 10) rfl rfl Tryz.func159 (by kernel_rfl) rfl #[.int .i64 a1] rfl (by (try simp only [List.map_toArray, List.map_cons, List.map_nil]); first | done | rfl | (simp only [List.length_drop, List.length_take]; rfl)) ?_; (with_reducible refine (api_Kind_159.calls a1 true _ A4.out).mono ?_); rintro e w' ⟨rfl, ⟨nd, rfl⟩⟩; refine ⟨_, rfl, ?_⟩))
      go_ret
      exact ⟨by first | rfl | (simp; done) | (simp [*]; done), by repeat (first | exact Drawn0.refl _ | apply Drawn0.step)⟩
    · replace c6 := Bool.eq_false_iff.mpr c6
      subst c6
      have H1 : (some (-1)) = some r := by rw [if_neg (show ¬ (false = true) by decide)] at H; exact H
      clear H
      have H := H1
      clear H1
      obtain rfl := Option.some.inj H
      go_enter Tryz.func136, Tryz.ntmps136
      go_wp2_with (first | ((with_reducible refine gate_callee (f := 159) rfl ?_); refine goesL_ (some 8) rfl rfl Tryz.func159 (by kernel_rfl) rfl #[.int .i64 a0] rfl (by (try simp only [List.map_toArray, List.map_cons, List.map_nil]); first | done | rfl | (simp only [List.length_drop, List.length_take]; rfl)) ?_; (with_reducible refine (api_Kind_159.calls a0 true _ A3.out).mono ?_); rintro e w' ⟨rfl, ⟨nd, rfl⟩⟩; refine ⟨_, rfl, ?_⟩) | ((with_reducible refine gate_callee (f := 159) rfl ?_); refine goesL_ (some 10) rfl rfl Tryz.func159 (by kernel_rfl) rfl #[.int .i64 a1] rfl (by (try simp only [List.map_toArray, List.map_cons, List.map_nil]); first | done | rfl | (simp only [List.length_drop, List.length_take]; rfl)) ?_; (with_reducible refine (api_Kind_159.calls a1 false _ A4.out).mono ?_); rintro e w' ⟨rfl, ⟨nd, rfl⟩⟩; refine ⟨_, rfl, ?_⟩))
      go_ret
      exact ⟨by first | rfl | (simp; done) | (simp [*]; done), by repeat (first | exact Drawn0.refl _ | apply Drawn0.step)⟩
  · replace c5 := Bool.eq_false_iff.mpr c5
    subst c5
    have H1 : (if t126 = true then (some 1) else (if a0 < a1 then (some (-1)) else (if a0 > a1 then (some 1) else (some 0)))) = some r := by rw [if_neg (show ¬ (false = true) by decide)] at H; exact H
    clear H
    have H := H1
    clear H1
    by_cases c7 : t126 = true
    · subst c7
      have H1 : (some 1) = some r := by rw [if_pos rfl] at H; exact H
      clear H
      have H := H1
      clear H1
      obtain rfl := Option.some.inj H
      go_enter Tryz.func136, Tryz.ntmps136
      go_wp2_with (first | ((with_reducible refine gate_callee (f := 159) rfl ?_); refine goesL_ (some 8) rfl rfl Tryz.func159 (by kernel_rfl) rfl #[.int .i64 a0] rfl (by (try simp only [List.map_toArray, List.map_cons, List.map_nil]); first | done | rfl | (simp only [List.length_drop, List.length_take]; rfl)) ?_; (with_reducible refine (api_Kind_159.calls a0 false _ A3.out).mono ?_); rintro e w' ⟨rfl, ⟨nd, rfl⟩⟩; refine ⟨_, rfl, ?_⟩) | ((with_reducible refine gate_callee (f := 159) rfl ?_); refine goesL_ (some 10) rfl rfl Tryz.func159 (by kernel_rfl) rfl #[.int .i64 a1] rfl (by (try simp only [List.map_toArray, List.map_cons, List.map_nil]); first | done | rfl | (simp only [List.length_drop, List.length_take]; rfl)) ?_; (with_reducible refine (api_Kind_159.calls a1 true _ A4.out).mono ?_); rintro e w' ⟨rfl, ⟨nd, rfl⟩⟩; refine ⟨_, rfl, ?_⟩))
      go_ret
      exact ⟨by first | rfl | (simp; done) | (simp [*]; done), by repeat (first | exact Drawn0.refl _ | apply Drawn0.step)⟩
    · replace c7 := Bool.eq_false_iff.mpr c7
      subst c7
      have H1 : (if a0 < a1 then (some (-1)) else (if a0 > a1 then (some 1) else (some 0))) = some r := by rw [if_neg (show ¬ (false = true) by decide)] at H; exact H
      clear H
      have H := H1
      clear H1
      by_cases c8 : a0 < a1
      · rw [if_pos c8] at H
        have c8b0 : decide (a0 < a1) = true := decide_eq_true c8
        clear c8
        obtain rfl := Option.some.inj H
        go_enter Tryz.func136, Tryz.ntmps136
        go_wp2_with (first | ((with_reducible refine gate_callee (f := 159) rfl ?_); refine goesL_ (some 8) rfl rfl Tryz.func159 (by kernel_rfl) rfl #[.int .i64 a0] rfl (by (try simp only [List.map_toArray, List.map_cons, List.map_nil]); first | done | rfl | (simp only [List.length_drop, List.length_take]; rfl)) ?_; (with_reducible refine (api_Kind_159.calls a0 false _ A3.out).mono ?_); rintro e w' ⟨rfl, ⟨nd, rfl⟩⟩; refine ⟨_, rfl, ?_⟩) | ((with_reducible refine gate_callee (f := 159) rfl ?_); refine goesL_ (some 10) rfl rfl Tryz.func159 (by kernel_rfl) rfl #[.int .i64 a1] rfl (by (try simp only [List.map_toArray, List.map_cons, List.map_nil]); first | done | rfl | (simp only [List.length_drop, List.length_take]; rfl)) ?_; (with_reducible refine (api_Kind_159.calls a1 false _ A4.out).mono ?_); rintro e w' ⟨rfl, ⟨nd, rfl⟩⟩; refine ⟨_, rfl, ?_⟩))
        go_ret
        exact ⟨by first | rfl | (simp; done) | (simp [*]; done), by repeat (first | exact Drawn0.refl _ | apply Drawn0.step)⟩
      · rw [if_neg c8] at H
        have c8b0 : decide (a0 < a1) = false := decide_eq_false c8
        clear c8
        by_cases c9 : a0 > a1
        · rw [if_pos c9] at H
          have c9b0 : decide (a1 < a0) = true := decide_eq_true c9
          clear c9
          obtain rfl := Option.some.inj H
          go_enter Tryz.func136, Tryz.ntmps136
          go_wp2_with (first | ((with_reducible refine gate_callee (f := 159) rfl ?_); refine goesL_ (some 8) rfl rfl Tryz.func159 (by kernel_rfl) rfl #[.int .i64 a0] rfl (by (try simp only [List.map_toArray, List.map_cons, List.map_nil]); first | done | rfl | (simp only [List.length_drop, List.length_take]; rfl)) ?_; (with_reducible refine (api_Kind_159.calls a0 false _ A3.out).mono ?_); rintro e w' ⟨rfl, ⟨nd, rfl⟩⟩; refine ⟨_, rfl, ?_⟩) | ((with_reducible refine gate_callee (f := 159) rfl ?_); refine goesL_ (some 10) rfl rfl Tryz.func159 (by kernel_rfl) rfl #[.int .i64 a1] rfl (by (try simp only [List.map_toArray, List.map_cons, List.map_nil]); first | done | rfl | (simp only [List.length_drop, List.length_take]; rfl)) ?_; (with_reducible refine (api_Kind_159.calls a1 false _ A4.out).mono ?_); rintro e w' ⟨rfl, ⟨nd, rfl⟩⟩; refine ⟨_, rfl, ?_⟩))
          go_ret
          exact ⟨by first | rfl | (simp; done) | (simp [*]; done), by repeat (first | exact Drawn0.refl _ | apply Drawn0.step)⟩
        · rw [if_neg c9] at H
          have c9b0 : decide (a1 < a0) = false := decide_eq_false c9
          clear c9
          obtain rfl := Option.some.inj H
          go_enter Tryz.func136, Tryz.ntmps136
          go_wp2_with (first | ((with_reducible refine gate_callee (f := 159) rfl ?_); refine goesL_ (some 8) rfl rfl Tryz.func159 (by kernel_rfl) rfl #[.int .i64 a0] rfl (by (try simp only [List.map_toArray, List.map_cons, List.map_nil]); first | done | rfl | (simp only [List.length_drop, List.length_take]; rfl)) ?_; (with_reducible refine (api_Kind_159.calls a0 false _ A3.out).mono ?_); rintro e w' ⟨rfl, ⟨nd, rfl⟩⟩; refine ⟨_, rfl, ?_⟩) | ((with_reducible refine gate_callee (f := 159) rfl ?_); refine goesL_ (some 10) rfl rfl Tryz.func159 (by kernel_rfl) rfl #[.int .i64 a1] rfl (by (try simp only [List.map_toArray, List.map_cons, List.map_nil]); first | done | rfl | (simp only [List.length_drop, List.length_take]; rfl)) ?_; (with_reducible refine (api_Kind_159.calls a1 false _ A4.out).mono ?_); rintro e w' ⟨rfl, ⟨nd, rfl⟩⟩; refine ⟨_, rfl, ?_⟩))
          go_ret
          exact ⟨by first | rfl | (simp; done) | (simp [*]; done), by repeat (first | exact Drawn0.refl _ | apply Drawn0.step)⟩
theorem cmpKind_at (a b : Int) : api_Kind_136.f a b = some (cmpI a b) := by
  unfold api_Kind_136.f api_Kind_159.f cmpI
  have e : (a != a) = false := by simp
  have e2 : (b != b) = false := by simp
  simp only [e, e2, Option.bind_some, Bool.false_eq_true, if_false]
  by_cases h1 : a < b
  · rw [if_pos h1, if_pos h1]
  · rw [if_neg h1, if_neg h1]
    by_cases h2 : a > b
    · rw [if_pos h2, if_pos h2]
    · rw [if_neg h2, if_neg h2]
def api_Kind_136_s.f (a0 : Int) (a1 : Int) : Option (Int) := some (cmpI a0 a1)
theorem api_Kind_136_s.calls (a0 : Int) (a1 : Int) (r : Int) (w : World) (h : api_Kind_136_s.f a0 a1 = some r) :
    Calls Tryz.prog 136 #[.int .i64 a0, .int .i64 a1] w fun e w' => e = .returned (.int .i64 r) ∧ Drawn0 w w' :=
  api_Kind_136.calls a0 a1 r w (by rw [cmpKind_at]; exact h)
def cmp_isNaN_int64.f (a0 : Int) : Option (Bool) := some (a0 != a0)
set_option maxHeartbeats 8000000 in
set_option maxRecDepth 100000 in
theorem cmp_isNaN_int64.calls (a0 : Int) (r : Bool) (w : World) (h : cmp_isNaN_int64.f a0 = some r) :
    Calls Tryz.prog 160 #[.int .i64 a0] w fun e w' => e = .returned (.bool r) ∧ Drawn0 w w' := by
  have H : (some (a0 != a0)) = some r := h
  clear h
  obtain rfl := Option.some.inj H
  go_enter Tryz.func160, Tryz.ntmps160
  go_wp2
  go_ret
  exact ⟨by first | rfl | (simp; done) | (simp [*]; done), by repeat (first | exact Drawn0.refl _ | apply Drawn0.step)⟩
def cmp_Compare_int64.f (a0 : Int) (a1 : Int) : Option (Int) := (cmp_isNaN_int64.f a0).bind fun t127 => ((cmp_isNaN_int64.f a1).bind fun t128 => (if t127 = true then (if t128 = true then (some 0) else (some (-1))) else (if t128 = true then (some 1) else (if a0 < a1 then (some (-1)) else (if a0 > a1 then (some 1) else (some 0))))))
set_option maxHeartbeats 8000000 in
set_option maxRecDepth 100000 in
theorem cmp_Compare_int64.calls (a0 : Int) (a1 : Int) (r : Int) (w : World) (h : cmp_Compare_int64.f a0 a1 = some r) :
    Calls Tryz.prog 137 #[.int .i64 a0, .int .i64 a1] w fun e w' => e = .returned (.int .i64 r) ∧ Drawn0 w w' := by
  have H : ((cmp_isNaN_int64.f a0).bind fun t127 => ((cmp_isNaN_int64.f a1).bind fun t128 => (if t127 = true then (if t128 = true then (some 0) else (some (-1))) else (if t128 = true then (some 1) else (if a0 < a1 then (some (-1)) else (if a0 > a1 then (some 1) else (some 0))))))) = some r := h
  clear h
  replace H := Option.bind_eq_some_iff.mp H
  obtain ⟨t127, A30, H⟩ := H
  replace H : ((cmp_isNaN_int64.f a1).bind fun t128 => (if t127 = true then (if t128 = true then (some 0) else (some (-1))) else (if t128 = true then (some 1) else (if a0 < a1 then (some (-1)) else (if a0 > a1 then (some 1) else (some 0)))))) = some r := H
  have A3 := Aside0.mk A30
  clear A30
  replace H := Option.bind_eq_some_iff.mp H
  obtain ⟨t128, A40, H⟩ := H
  replace H : (if t127 = true then (if t128 = true then (some 0) else (some (-1))) else (if t128 = true then (some 1) else (if a0 < a1 then (some (-1)) else (if a0 > a1 then (some 1) else (some 0))))) = some r := H
  have A4 := Aside0.mk A40
  clear A40
  by_cases c5 : t127 = true
  · subst c5
    have H1 : (if t128 = true then (some 0) else (some (-1))) = some r := by rw [if_pos rfl] at H; exact H
    clear H
    have H := H1
    clear H1
    by_cases c6 : t128 = true
    · subst c6
      have H1 : (some 0) = some r := by rw [if_pos rfl] at H; exact H
      clear H
      have H := H1
      clear H1
      obtain rfl := Option.some.inj H
      go_enter Tryz.func137, Tryz.ntmps137
      go_wp2_with (first | ((with_reducible refine gate_callee (f := 160) rfl ?_); refine goesL_ (some 8) rfl rfl Tryz.func160 (by kernel_rfl) rfl #[.int .i64 a0] rfl (by (try simp only [List.map_toArray, List.map_cons, List.map_nil]); first | done | rfl | (simp only [List.length_drop, List.length_take]; rfl)) ?_; (with_reducible refine (cmp_isNaN_int64.calls a0 true _ A3.out).mono ?_); rintro e w' ⟨rfl, ⟨nd, rfl⟩⟩; refine ⟨_, rfl, ?_⟩) | ((with_reducible refine gate_callee (f := 160) rfl ?_); refine goesL_ (some 10) rfl rfl Tryz.func160 (by kernel_rfl) rfl #[.int .i64 a1] rfl (by (try simp only [List.map_toArray, List.map_cons, List.map_nil]); first | done | rfl | (simp only [List.length_drop, List.length_take]; rfl)) ?_; (with_reducible refine (cmp_isNaN_int64.calls a1 true _ A4.out).mono ?_); rintro e w' ⟨rfl, ⟨nd, rfl⟩⟩; refine ⟨_, rfl, ?_⟩))
      go_ret
      exact ⟨by first | rfl | (simp; done) | (simp [*]; done), by repeat (first | exact Drawn0.refl _ | apply Drawn0.step)⟩
    · replace c6 := Bool.eq_false_iff.mpr c6
      subst c6
      have H1 : (some (-1)) = some r := by rw [if_neg (show ¬ (false = true) by decide)] at H; exact H
      clear H
      have H := H1
      clear H1
      obtain rfl := Option.some.inj H
      go_enter Tryz.func137, Tryz.ntmps137
      go_wp2_with (first | ((with_reducible refine gate_callee (f := 160) rfl ?_); refine goesL_ (some 8) rfl rfl Tryz.func160 (by kernel_rfl) rfl #[.int .i64 a0] rfl (by (try simp only [List.map_toArray, List.map_cons, List.map_nil]); first | done | rfl | (simp only [List.length_drop, List.length_take]; rfl)) ?_; (with_reducible refine (cmp_isNaN_int64.calls a0 true _ A3.out).mono ?_); rintro e w' ⟨rfl, ⟨nd, rfl⟩⟩; refine ⟨_, rfl, ?_⟩) | ((with_reducible refine gate_callee (f := 160) rfl ?_); refine goesL_ (some 10) rfl rfl Tryz.func160 (by kernel_rfl) rfl #[.int .i64 a1] rfl (by (try simp only [List.map_toArray, List.map_cons, List.map_nil]); first | done | rfl | (simp only [List.length_drop, List.length_take]; rfl)) ?_; (with_reducible refine (cmp_isNaN_int64.calls a1 false _ A4.out).mono ?_); rintro e w' ⟨rfl, ⟨nd, rfl⟩⟩; refine ⟨_, rfl, ?_⟩))
      go_ret
      exact ⟨by first | rfl | (simp; done) | (simp [*]; done), by repeat (first | exact Drawn0.refl _ | apply Drawn0.step)⟩
  · replace c5 := Bool.eq_false_iff.mpr c5
    subst c5
    have H1 : (if t128 = true then (some 1) else (if a0 < a1 then (some (-1)) else (if a0 > a1 then (some 1) else (some 0)))) = some r := by rw [if_neg (show ¬ (false = true) by decide)] at H; exact H
    clear H
    have H := H1
    clear H1
    by_cases c7 : t128 = true
    · subst c7
      have H1 : (some 1) = some r := by rw [if_pos rfl] at H; exact H
      clear H
      have H := H1
      clear H1
      obtain rfl := Option.some.inj H
      go_enter Tryz.func137, Tryz.ntmps137
      go_wp2_with (first | ((with_reducible refine gate_callee (f := 160) rfl ?_); refine goesL_ (some 8) rfl rfl Tryz.func160 (by kernel_rfl) rfl #[.int .i64 a0] rfl (by (try simp only [List.map_toArray, List.map_cons, List.map_nil]); first | done | rfl | (simp only [List.length_drop, List.length_take]; rfl)) ?_; (with_reducible refine (cmp_isNaN_int64.calls a0 false _ A3.out).mono ?_); rintro e w' ⟨rfl, ⟨nd, rfl⟩⟩; refine ⟨_, rfl, ?_⟩) | ((with_reducible refine gate_callee (f := 160) rfl ?_); refine goesL_ (some 10) rfl rfl Tryz.func160 (by kernel_rfl) rfl #[.int .i64 a1] rfl (by (try simp only [List.map_toArray, List.map_cons, List.map_nil]); first | done | rfl | (simp only [List.length_drop, List.length_take]; rfl)) ?_; (with_reducible refine (cmp_isNaN_int64.calls a1 true _ A4.out).mono ?_); rintro e w' ⟨rfl, ⟨nd, rfl⟩⟩; refine ⟨_, rfl, ?_⟩))
      go_ret
      exact ⟨by first | rfl | (simp; done) | (simp [*]; done), by repeat (first | exact Drawn0.refl _ | apply Drawn0.step)⟩
    · replace c7 := Bool.eq_false_iff.mpr c7
      subst c7
      have H1 : (if a0 < a1 then (some (-1)) else (if a0 > a1 then (some 1) else (some 0))) = some r := by rw [if_neg (show ¬ (false = true) by decide)] at H; exact H
      clear H
      have H := H1
      clear H1
      by_cases c8 : a0 < a1
      · rw [if_pos c8] at H
        have c8b0 : decide (a0 < a1) = true := decide_eq_true c8
        clear c8
        obtain rfl := Option.some.inj H
        go_enter Tryz.func137, Tryz.ntmps137
        go_wp2_with (first | ((with_reducible refine gate_callee (f := 160) rfl ?_); refine goesL_ (some 8) rfl rfl Tryz.func160 (by kernel_rfl) rfl #[.int .i64 a0] rfl (by (try simp only [List.map_toArray, List.map_cons, List.map_nil]); first | done | rfl | (simp only [List.length_drop, List.length_take]; rfl)) ?_; (with_reducible refine (cmp_isNaN_int64.calls a0 false _ A3.out).mono ?_); rintro e w' ⟨rfl, ⟨nd, rfl⟩⟩; refine ⟨_, rfl, ?_⟩) | ((with_reducible refine gate_callee (f := 160) rfl ?_); refine goesL_ (some 10) rfl rfl Tryz.func160 (by kernel_rfl) rfl #[.int .i64 a1] rfl (by (try simp only [List.map_toArray, List.map_cons, List.map_nil]); first | done | rfl | (simp only [List.length_drop, List.length_take]; rfl)) ?_; (with_reducible refine (cmp_isNaN_int64.calls a1 false _ A4.out).mono ?_); rintro e w' ⟨rfl, ⟨nd, rfl⟩⟩; refine ⟨_, rfl, ?_⟩))
        go_ret
        exact ⟨by first | rfl | (simp; done) | (simp [*]; done), by repeat (first | exact Drawn0.refl _ | apply Drawn0.step)⟩
      · rw [if_neg c8] at H
        have c8b0 : decide (a0 < a1) = false := decide_eq_false c8
        clear c8
        by_cases c9 : a0 > a1
        · rw [if_pos c9] at H
          have c9b0 : decide (a1 < a0) = true := decide_eq_true c9
          clear c9
          obtain rfl := Option.some.inj H
          go_enter Tryz.func137, Tryz.ntmps137
          go_wp2_with (first | ((with_reducible refine gate_callee (f := 160) rfl ?_); refine goesL_ (some 8) rfl rfl Tryz.func160 (by kernel_rfl) rfl #[.int .i64 a0] rfl (by (try simp only [List.map_toArray, List.map_cons, List.map_nil]); first | done | rfl | (simp only [List.length_drop, List.length_take]; rfl)) ?_; (with_reducible refine (cmp_isNaN_int64.calls a0 false _ A3.out).mono ?_); rintro e w' ⟨rfl, ⟨nd, rfl⟩⟩; refine ⟨_, rfl, ?_⟩) | ((with_reducible refine gate_callee (f := 160) rfl ?_); refine goesL_ (some 10) rfl rfl Tryz.func160 (by kernel_rfl) rfl #[.int .i64 a1] rfl (by (try simp only [List.map_toArray, List.map_cons, List.map_nil]); first | done | rfl | (simp only [List.length_drop, List.length_take]; rfl)) ?_; (with_reducible refine (cmp_isNaN_int64.calls a1 false _ A4.out).mono ?_); rintro e w' ⟨rfl, ⟨nd, rfl⟩⟩; refine ⟨_, rfl, ?_⟩))
          go_ret
          exact ⟨by first | rfl | (simp; done) | (simp [*]; done), by repeat (first | exact Drawn0.refl _ | apply Drawn0.step)⟩
        · rw [if_neg c9] at H
          have c9b0 : decide (a1 < a0) = false := decide_eq_false c9
          clear c9
          obtain rfl := Option.some.inj H
          go_enter Tryz.func137, Tryz.ntmps137
          go_wp2_with (first | ((with_reducible refine gate_callee (f := 160) rfl ?_); refine goesL_ (some 8) rfl rfl Tryz.func160 (by kernel_rfl) rfl #[.int .i64 a0] rfl (by (try simp only [List.map_toArray, List.map_cons, List.map_nil]); first | done | rfl | (simp only [List.length_drop, List.length_take]; rfl)) ?_; (with_reducible refine (cmp_isNaN_int64.calls a0 false _ A3.out).mono ?_); rintro e w' ⟨rfl, ⟨nd, rfl⟩⟩; refine ⟨_, rfl, ?_⟩) | ((with_reducible refine gate_callee (f := 160) rfl ?_); refine goesL_ (some 10) rfl rfl Tryz.func160 (by kernel_rfl) rfl #[.int .i64 a1] rfl (by (try simp only [List.map_toArray, List.map_cons, List.map_nil]); first | done | rfl | (simp only [List.length_drop, List.length_take]; rfl)) ?_; (with_reducible refine (cmp_isNaN_int64.calls a1 false _ A4.out).mono ?_); rintro e w' ⟨rfl, ⟨nd, rfl⟩⟩; refine ⟨_, rfl, ?_⟩))
          go_ret
          exact ⟨by first | rfl | (simp; done) | (simp [*]; done), by repeat (first | exact Drawn0.refl _ | apply Drawn0.step)⟩
theorem cmpInt64_at (a b : Int) : cmp_Compare_int64.f a b = some (cmpI a b) := by
  unfold cmp_Compare_int64.f cmp_isNaN_int64.f cmpI
  have e : (a != a) = false := by simp
  have e2 : (b != b) = false := by simp
  simp only [e, e2, Option.bind_some, Bool.false_eq_true, if_false]
  by_cases h1 : a < b
  · rw [if_pos h1, if_pos h1]
  · rw [if_neg h1, if_neg h1]
    by_cases h2 : a > b
    · rw [if_pos h2, if_pos h2]
    · rw [if_neg h2, if_neg h2]
def cmp_Compare_int64_s.f (a0 : Int) (a1 : Int) : Option (Int) := some (cmpI a0 a1)
theorem cmp_Compare_int64_s.calls (a0 : Int) (a1 : Int) (r : Int) (w : World) (h : cmp_Compare_int64_s.f a0 a1 = some r) :
    Calls Tryz.prog 137 #[.int .i64 a0, .int .i64 a1] w fun e w' => e = .returned (.int .i64 r) ∧ Drawn0 w w' :=
  cmp_Compare_int64.calls a0 a1 r w (by rw [cmpInt64_at]; exact h)
def cmp_isNaN_string.f (a0 : ByteArray) : Option (Bool) := some (a0.toList != a0.toList)
set_option maxHeartbeats 8000000 in
set_option maxRecDepth 100000 in
theorem cmp_isNaN_string.calls (a0 : ByteArray) (r : Bool) (w : World) (h : cmp_isNaN_string.f a0 = some r) :
    Calls Tryz.prog 161 #[.string a0] w fun e w' => e = .returned (.bool r) ∧ Drawn0 w w' := by
  have H : (some (a0.toList != a0.toList)) = some r := h
  clear h
  obtain rfl := Option.some.inj H
  go_enter Tryz.func161, Tryz.ntmps161
  go_wp2
  go_ret
  exact ⟨by first | rfl | (simp; done) | (simp [*]; done), by repeat (first | exact Drawn0.refl _ | apply Drawn0.step)⟩
def cmp_Compare_string.f (a0 : ByteArray) (a1 : ByteArray) : Option (Int) := some (cmpB a0 a1)
set_option maxHeartbeats 1000000 in
theorem cmp_Compare_string.calls (a0 : ByteArray) (a1 : ByteArray) (r : Int) (w : World) (h : cmp_Compare_string.f a0 a1 = some r) :
  Calls Tryz.prog 138 #[.string a0, .string a1] w fun e w' => e = .returned (.int .i64 r) ∧ Drawn0 w w' := by
 obtain rfl := Option.some.inj h
 clear h
 have HN := Aside0.mk (fun (a : ByteArray) W => cmp_isNaN_string.calls a false W (by unfold cmp_isNaN_string.f; simp))
 unfold cmpB
 simp only [← ByteArray.toList_eq]
 by_cases h1 : Op.bytesLess a0.toList a1.toList = true
 ·rw [if_pos h1]
  go_enter Tryz.func138, Tryz.ntmps138
  go_wp2_with (go_at_call 161; refine (HN.out _ _).mono ?_; rintro e w' ⟨rfl, ⟨n, rfl⟩⟩)
  go_ret
  exact ⟨rfl, by repeat (first | exact Drawn0.refl _ | apply Drawn0.step)⟩
 ·rw [if_neg h1]
  replace h1 : Op.bytesLess a0.toList a1.toList = false := by simpa using h1
  by_cases h2 : (a0.toList == a1.toList) = true
  ·rw [if_pos h2]
   go_enter Tryz.func138, Tryz.ntmps138
   go_wp2_with (go_at_call 161; refine (HN.out _ _).mono ?_; rintro e w' ⟨rfl, ⟨n, rfl⟩⟩)
   go_ret
   exact ⟨rfl, by repeat (first | exact Drawn0.refl _ | apply Drawn0.step)⟩
  ·rw [if_neg h2]
   replace h2 : (a0.toList == a1.toList) = false := by simpa using h2
   go_enter Tryz.func138, Tryz.ntmps138
   go_wp2_with (go_at_call 161; refine (HN.out _ _).mono ?_; rintro e w' ⟨rfl, ⟨n, rfl⟩⟩)
   go_ret
   exact ⟨rfl, by repeat (first | exact Drawn0.refl _ | apply Drawn0.step)⟩
end Go.Proofs.YtmhobbdedmjmnaaGreatDoor.Q
end
section
/- Each function reached is shown to return what the plain function beside it computes, wherever that is defined (written by a program of ours for this seat). -/
namespace Go.Proofs.YtmhobbdedmjmnaaGreatDoor.Q
open Go.RowKit Go.Proofs.YtmhobbdedmjmnaaGreatDoorW.PrintWords Go.Proofs.YtmhobbdedmjmnaaGreatDoorW.PrintLast Go.Proofs.YtmhobbdedmjmnaaGreatDoorW.PrintMore
attribute [local go_sem] max2_int min2_int max_two min_two max_three min_three max_four min_four   -- for this text's walks alone
set_option linter.unusedVariables false
set_option linter.unusedSimpArgs false
def value_Order.f (k : Nat) (a0_0 : Int) (a0_1 : Int) (a0_2 : ByteArray) (a1_0 : Int) (a1_1 : Int) (a1_2 : ByteArray) : Option (Int) := (api_Kind_136_s.f a0_0 a1_0).bind fun t131 => ((cmp_Compare_int64_s.f a0_1 a1_1).bind fun t132 => ((cmp_Compare_string.f a0_2 a1_2).bind fun t133 => ((cmp_Or_int.f k (([t131, t132, t133] : List Int))).bind fun t137 => (some t137))))
def value_Order.T1 : Bool × List (List Nat × List Nat) := (true, [([], []), ([0], [0]), ([], []), ([2], [2]), ([1, 3], [1, 3]), ([], []), ([5], [5]), ([], []), ([7], [7]), ([6, 8, 4], [6, 8]), ([], []), ([10], [10]), ([], []), ([12], [12]), ([11, 13, 9], [11, 13]), ([4, 9, 14], [4, 9, 14]), ([15, 14], [15]), ([16, 16, 0, 1, 2, 3, 4, 5, 6, 7, 8, 9, 10, 11, 12, 13, 14, 15, 16], [16])])
def value_Order.B1 : List Nat := [0, 1, 0, 4, 15, 0, 32, 0, 128, 511, 0, 1024, 0, 4096, 16383, 32767, 65535, 131071]
theorem value_Order.tab1 : rtab .any (opsOf Tryz.f101 1) = value_Order.T1 := by kernel_rfl
theorem value_Order.bits1 : waitsOk value_Order.T1.2 value_Order.B1 = true := by kernel_rfl
set_option maxHeartbeats 8000000 in
set_option maxRecDepth 100000 in
theorem value_Order.grows (k : Nat) (a0_0 : Int) (a0_1 : Int) (a0_2 : ByteArray) (a1_0 : Int) (a1_1 : Int) (a1_2 : ByteArray) (r : Int) (w : World) (h : value_Order.f k a0_0 a0_1 a0_2 a1_0 a1_1 a1_2 = some r) :
    Calls Tryz.prog 101 #[.agg #[.int .i64 a0_0, .int .i64 a0_1, .string a0_2], .agg #[.int .i64 a1_0, .int .i64 a1_1, .string a1_2]] w fun e w' => e = .returned (.int .i64 r) ∧ BelowD w.heap.size w w' := by
  have hu61 := Tryz.underlying61
  have HB := Aside0.mk (BelowD.refl w.heap.size w)
  have H : ((api_Kind_136_s.f a0_0 a1_0).bind fun t131 => ((cmp_Compare_int64_s.f a0_1 a1_1).bind fun t132 => ((cmp_Compare_string.f a0_2 a1_2).bind fun t133 => ((cmp_Or_int.f k (([t131, t132, t133] : List Int))).bind fun t137 => (some t137))))) = some r := h
  clear h
  replace H := Option.bind_eq_some_iff.mp H
  obtain ⟨t131, A30, H⟩ := H
  replace H : ((cmp_Compare_int64_s.f a0_1 a1_1).bind fun t132 => ((cmp_Compare_string.f a0_2 a1_2).bind fun t133 => ((cmp_Or_int.f k (([t131, t132, t133] : List Int))).bind fun t137 => (some t137)))) = some r := H
  have A3 := Aside0.mk A30
  clear A30
  replace H := Option.bind_eq_some_iff.mp H
  obtain ⟨t132, A40, H⟩ := H
  replace H : ((cmp_Compare_string.f a0_2 a1_2).bind fun t133 => ((cmp_Or_int.f k (([t131, t132, t133] : List Int))).bind fun t137 => (some t137))) = some r := H
  have A4 := Aside0.mk A40
  clear A40
  replace H := Option.bind_eq_some_iff.mp H
  obtain ⟨t133, A50, H⟩ := H
  replace H : ((cmp_Or_int.f k (([t131, t132, t133] : List Int))).bind fun t137 => (some t137)) = some r := H
  have A5 := Aside0.mk A50
  clear A50
  obtain ⟨y134, hy134⟩ : ∃ y_ : List Int, y_ = (([t131, t132, t133] : List Int)) := ⟨_, rfl⟩
  replace H : ((cmp_Or_int.f k y134).bind fun t137 => (some t137)) = some r := by first | (rw [hy134]; with_reducible exact H) | (have H2_ := (Option.bind_some _ _).symm.trans H; rw [hy134]; with_reducible exact H2_) | (have H2_ := (Option.bind_some _ _).symm.trans H; with_reducible exact H2_) | with_reducible exact H | (rw [hy134]; exact H) | exact H
  have Ny134 := Aside0.mk hy134
  clear hy134
  replace H := Option.bind_eq_some_iff.mp H
  obtain ⟨t137, A60, H⟩ := H
  replace H : (some t137) = some r := H
  have A6 := Aside0.mk A60
  clear A60
  obtain rfl := Option.some.inj H
  go_enter Tryz.func101, Tryz.ntmps101
  try go_wp2_with (first | ((with_reducible refine gate_dst (N := 2) rfl ?_); refine box_eventD ?hg (N := 2) ?hd (cs := #[.int .i64 a0_0, .int .i64 a0_1, .string a0_2]) (t := 61) ?hr ?_; (case hd => rfl); (case hg => rfl); (case hr => first | (go_simp; done) | (go_simp; rfl)); intro gb129 hg w7 hbox hb; have n0_ := Aside0.mk (belowD_step (by repeat (first | (with_reducible first | exact HB.out | apply dA | apply dN | apply dD) | exact HB.out)) hb); have n1_ := Aside0.mk (hbox); have n2_ := Aside0.mk ((by rw [hg]; exact (belowD_size (by repeat (first | (with_reducible first | exact HB.out | apply dA | apply dN | apply dD) | exact HB.out))) : w.heap.size ≤ gb129)); have n3_ := Aside0.mk ((by rw [hg]; exact (belowD_size (by repeat (first | (with_reducible first | exact HB.out | apply dA | apply dN | apply dD) | exact HB.out))) : w.heap.size ≤ gb129)); clear HB; have HB := n0_; have BK129 := n1_; have GW129 := n2_; have GE129 := n3_; clear n0_ n1_ n2_ n3_; clear hb hbox hg) | ((with_reducible refine gate_dst (N := 3) rfl ?_); refine box_eventD ?hg (N := 3) ?hd (cs := #[.int .i64 a1_0, .int .i64 a1_1, .string a1_2]) (t := 61) ?hr ?_; (case hd => rfl); (case hg => rfl); (case hr => first | (go_simp; done) | (go_simp; rfl)); intro gb130 hg w8 hbox hb; have n0_ := Aside0.mk (blk_belowD (g := gb129) (o := .cells #[.int .i64 a0_0, .int .i64 a0_1, .string a0_2] 61 (0, 0)) (by (with_reducible repeat (first | refine zN ?_ _ | refine zD ?_ | refine zA ?_ _)); exact BK129.out) hb); have n1_ := Aside0.mk (belowD_step (by repeat (first | (with_reducible first | exact HB.out | apply dA | apply dN | apply dD | refine below_set ?_ GE129.out) | exact HB.out)) hb); have n2_ := Aside0.mk (hbox); have n3_ := Aside0.mk ((by rw [hg]; exact (belowD_size (by repeat (first | (with_reducible first | exact HB.out | apply dA | apply dN | apply dD | refine below_set ?_ GE129.out) | exact HB.out))) : w.heap.size ≤ gb130)); have n4_ := Aside0.mk ((by rw [hg]; exact (belowD_size (by repeat (first | (with_reducible first | exact HB.out | apply dA | apply dN | apply dD | refine below_set ?_ GE129.out) | exact HB.out))) : w.heap.size ≤ gb130)); have n5_ := Aside0.mk ((by rw [hg]; exact Nat.ne_of_lt (blk_lt (g := gb129) (o := .cells #[.int .i64 a0_0, .int .i64 a0_1, .string a0_2] 61 (0, 0)) (by (with_reducible repeat (first | refine zN ?_ _ | refine zD ?_ | refine zA ?_ _)); exact BK129.out)) : gb129 ≠ gb130)); have n6_ := Aside0.mk ((by rw [hg]; exact Nat.ne_of_gt (blk_lt (g := gb129) (o := .cells #[.int .i64 a0_0, .int .i64 a0_1, .string a0_2] 61 (0, 0)) (by (with_reducible repeat (first | refine zN ?_ _ | refine zD ?_ | refine zA ?_ _)); exact BK129.out)) : gb130 ≠ gb129)); clear BK129; clear HB; have BK129 := n0_; have HB := n1_; have BK130 := n2_; have GW130 := n3_; have GE130 := n4_; have NB129_130 := n5_; have NB130_129 := n6_; clear n0_ n1_ n2_ n3_ n4_ n5_ n6_; clear hb hbox hg))
  have n0_ := Aside0.mk (blk_drew BK129.out)
  have n1_ := Aside0.mk (blk_drew BK130.out)
  have n2_ := Aside0.mk (dD HB.out)
  clear BK129
  clear BK130
  clear HB
  have BK129 := n0_
  have BK130 := n1_
  have HB := n2_
  clear n0_ n1_ n2_
  refine start_ (n := 18) (S := fun w' => w'.cell? ⟨gb129, 0, none⟩ = some (.int .i64 a0_0) ∧ w'.cell? ⟨gb129, 1, none⟩ = some (.int .i64 a0_1) ∧ w'.cell? ⟨gb129, 2, none⟩ = some (.string a0_2) ∧ w'.cell? ⟨gb130, 0, none⟩ = some (.int .i64 a1_0) ∧ w'.cell? ⟨gb130, 1, none⟩ = some (.int .i64 a1_1) ∧ w'.cell? ⟨gb130, 2, none⟩ = some (.string a1_2)) (ds := []) #[false, false, false, false, false, false, false, false, false, false, false, false, false, false, false, false, false, false] (by kernel_rfl) rfl rfl ⟨(blk_cell BK129.out 0).trans rfl, (blk_cell BK129.out 1).trans rfl, (blk_cell BK129.out 2).trans rfl, (blk_cell BK130.out 0).trans rfl, (blk_cell BK130.out 1).trans rfl, (blk_cell BK130.out 2).trans rfl⟩ (fun hHeld => ?_); refine with_tabW value_Order.tab1 value_Order.bits1 (fun HT_ HW_ => ?_)
  generalize w8.drew = w9 at BK129 BK130 HB hHeld ⊢
  refine pure_ (i := 0) (N := some 5) (v := ?_) (a' := ?_) #[true, false, false, false, false, false, false, false, false, false, false, false, false, false, false, false, false, false] rfl rfl (any_of HT_.out (by kernel_rfl)) (fun _ _ _ h => h) (Or.inl ⟨by rfl, ?_⟩) ?_ ?_
  rotate_left
  · intro w'
    go_simp
    with_reducible rfl
  rotate_left
  · simp only [Act.put, List.setIfInBounds_toArray, List.set_cons_zero, List.set_cons_succ, i64_w, i32_w]
    rfl
  refine pure_ (i := 2) (N := some 7) (v := ?_) (a' := ?_) #[true, false, true, false, false, false, false, false, false, false, false, false, false, false, false, false, false, false] rfl rfl (any_of HT_.out (by kernel_rfl)) (fun _ _ _ h => h) (Or.inl ⟨by rfl, ?_⟩) ?_ ?_
  rotate_left
  · intro w'
    go_simp
    with_reducible rfl
  rotate_left
  · simp only [Act.put, List.setIfInBounds_toArray, List.set_cons_zero, List.set_cons_succ, i64_w, i32_w]
    rfl
  refine pure_ (i := 5) (N := some 10) (v := ?_) (a' := ?_) #[true, false, true, false, false, true, false, false, false, false, false, false, false, false, false, false, false, false] rfl rfl (any_of HT_.out (by kernel_rfl)) (fun _ _ _ h => h) (Or.inl ⟨by rfl, ?_⟩) ?_ ?_
  rotate_left
  · intro w'
    go_simp
    with_reducible rfl
  rotate_left
  · simp only [Act.put, List.setIfInBounds_toArray, List.set_cons_zero, List.set_cons_succ, i64_w, i32_w]
    rfl
  refine pure_ (i := 7) (N := some 12) (v := ?_) (a' := ?_) #[true, false, true, false, false, true, false, true, false, false, false, false, false, false, false, false, false, false] rfl rfl (any_of HT_.out (by kernel_rfl)) (fun _ _ _ h => h) (Or.inl ⟨by rfl, ?_⟩) ?_ ?_
  rotate_left
  · intro w'
    go_simp
    with_reducible rfl
  rotate_left
  · simp only [Act.put, List.setIfInBounds_toArray, List.set_cons_zero, List.set_cons_succ, i64_w, i32_w]
    rfl
  refine pure_ (i := 10) (N := some 15) (v := ?_) (a' := ?_) #[true, false, true, false, false, true, false, true, false, false, true, false, false, false, false, false, false, false] rfl rfl (any_of HT_.out (by kernel_rfl)) (fun _ _ _ h => h) (Or.inl ⟨by rfl, ?_⟩) ?_ ?_
  rotate_left
  · intro w'
    go_simp
    with_reducible rfl
  rotate_left
  · simp only [Act.put, List.setIfInBounds_toArray, List.set_cons_zero, List.set_cons_succ, i64_w, i32_w]
    rfl
  refine pure_ (i := 12) (N := some 17) (v := ?_) (a' := ?_) #[true, false, true, false, false, true, false, true, false, false, true, false, true, false, false, false, false, false] rfl rfl (any_of HT_.out (by kernel_rfl)) (fun _ _ _ h => h) (Or.inl ⟨by rfl, ?_⟩) ?_ ?_
  rotate_left
  · intro w'
    go_simp
    with_reducible rfl
  rotate_left
  · simp only [Act.put, List.setIfInBounds_toArray, List.set_cons_zero, List.set_cons_succ, i64_w, i32_w]
    rfl
  refine take_ (i := 1) (N := some 6) (v := ?_) (a' := ?_) #[true, true, true, false, false, true, false, true, false, false, true, false, true, false, false, false, false, false] rfl rfl (take_ofW HT_.out HW_.out (by kernel_rfl)) (fun _ _ _ h => h) (Or.inl ⟨by rfl, ?_⟩) hHeld ?_ ?_
  rotate_left
  · rintro w' ⟨s0, s1, s2, s3, s4, s5⟩
    go_simp
    with_reducible rfl
  rotate_left
  · simp only [Act.put, List.setIfInBounds_toArray, List.set_cons_zero, List.set_cons_succ, i64_w, i32_w]
    rfl
  refine take_ (i := 3) (N := some 8) (v := ?_) (a' := ?_) #[true, true, true, true, false, true, false, true, false, false, true, false, true, false, false, false, false, false] rfl rfl (take_ofW HT_.out HW_.out (by kernel_rfl)) (fun _ _ _ h => h) (Or.inl ⟨by rfl, ?_⟩) hHeld ?_ ?_
  rotate_left
  · rintro w' ⟨s0, s1, s2, s3, s4, s5⟩
    go_simp
    with_reducible rfl
  rotate_left
  · simp only [Act.put, List.setIfInBounds_toArray, List.set_cons_zero, List.set_cons_succ, i64_w, i32_w]
    rfl
  refine take_ (i := 6) (N := some 11) (v := ?_) (a' := ?_) #[true, true, true, true, false, true, true, true, false, false, true, false, true, false, false, false, false, false] rfl rfl (take_ofW HT_.out HW_.out (by kernel_rfl)) (fun _ _ _ h => h) (Or.inl ⟨by rfl, ?_⟩) hHeld ?_ ?_
  rotate_left
  · rintro w' ⟨s0, s1, s2, s3, s4, s5⟩
    go_simp
    with_reducible rfl
  rotate_left
  · simp only [Act.put, List.setIfInBounds_toArray, List.set_cons_zero, List.set_cons_succ, i64_w, i32_w]
    rfl
  refine take_ (i := 8) (N := some 13) (v := ?_) (a' := ?_) #[true, true, true, true, false, true, true, true, true, false, true, false, true, false, false, false, false, false] rfl rfl (take_ofW HT_.out HW_.out (by kernel_rfl)) (fun _ _ _ h => h) (Or.inl ⟨by rfl, ?_⟩) hHeld ?_ ?_
  rotate_left
  · rintro w' ⟨s0, s1, s2, s3, s4, s5⟩
    go_simp
    with_reducible rfl
  rotate_left
  · simp only [Act.put, List.setIfInBounds_toArray, List.set_cons_zero, List.set_cons_succ, i64_w, i32_w]
    rfl
  refine take_ (i := 11) (N := some 16) (v := ?_) (a' := ?_) #[true, true, true, true, false, true, true, true, true, false, true, true, true, false, false, false, false, false] rfl rfl (take_ofW HT_.out HW_.out (by kernel_rfl)) (fun _ _ _ h => h) (Or.inl ⟨by rfl, ?_⟩) hHeld ?_ ?_
  rotate_left
  · rintro w' ⟨s0, s1, s2, s3, s4, s5⟩
    go_simp
    with_reducible rfl
  rotate_left
  · simp only [Act.put, List.setIfInBounds_toArray, List.set_cons_zero, List.set_cons_succ, i64_w, i32_w]
    rfl
  refine take_ (i := 13) (N := some 18) (v := ?_) (a' := ?_) #[true, true, true, true, false, true, true, true, true, false, true, true, true, true, false, false, false, false] rfl rfl (take_ofW HT_.out HW_.out (by kernel_rfl)) (fun _ _ _ h => h) (Or.inl ⟨by rfl, ?_⟩) hHeld ?_ ?_
  rotate_left
  · rintro w' ⟨s0, s1, s2, s3, s4, s5⟩
    go_simp
    with_reducible rfl
  rotate_left
  · simp only [Act.put, List.setIfInBounds_toArray, List.set_cons_zero, List.set_cons_succ, i64_w, i32_w]
    rfl
  refine one_ (i := 4) (N := some 9) #[true, true, true, true, true, true, true, true, true, false, true, true, true, true, false, false, false, false] rfl rfl (one_of HT_.out (by kernel_rfl)) (by decide) (fun K hK => ?_)
  refine goes_ Tryz.func136 (by kernel_rfl) rfl #[.int .i64 a0_0, .int .i64 a1_0] (by rfl) rfl rfl (by (try simp only [List.map_toArray, List.map_cons, List.map_nil]); first | done | rfl | (simp only [List.length_drop, List.length_take]; rfl)) ?_
  with_reducible refine (api_Kind_136_s.calls a0_0 a1_0 t131 _ A3.out).mono ?_
  rintro e w' ⟨rfl, ⟨nd, rfl⟩⟩
  refine ⟨_, rfl, ?_⟩
  refine hK.out _ _ ⟨(blk_cell BK129.out 0).trans rfl, (blk_cell BK129.out 1).trans rfl, (blk_cell BK129.out 2).trans rfl, (blk_cell BK130.out 0).trans rfl, (blk_cell BK130.out 1).trans rfl, (blk_cell BK130.out 2).trans rfl⟩ (fun hHeld => ?_)
  clear hK K
  refine norm_ (a' := ?_) ?_ ?_
  rotate_left
  · show Act.put _ (some 9) _ = _
    simp only [Act.put, List.setIfInBounds_toArray, List.set_cons_zero, List.set_cons_succ, i64_w, i32_w]
    rfl
  refine one_ (i := 9) (N := some 14) #[true, true, true, true, true, true, true, true, true, true, true, true, true, true, false, false, false, false] rfl rfl (one_of HT_.out (by kernel_rfl)) (by decide) (fun K hK => ?_)
  refine goes_ Tryz.func137 (by kernel_rfl) rfl #[.int .i64 a0_1, .int .i64 a1_1] (by rfl) rfl rfl (by (try simp only [List.map_toArray, List.map_cons, List.map_nil]); first | done | rfl | (simp only [List.length_drop, List.length_take]; rfl)) ?_
  with_reducible refine (cmp_Compare_int64_s.calls a0_1 a1_1 t132 _ A4.out).mono ?_
  rintro e w' ⟨rfl, ⟨nd, rfl⟩⟩
  refine ⟨_, rfl, ?_⟩
  refine hK.out _ _ ⟨(blk_cell BK129.out 0).trans rfl, (blk_cell BK129.out 1).trans rfl, (blk_cell BK129.out 2).trans rfl, (blk_cell BK130.out 0).trans rfl, (blk_cell BK130.out 1).trans rfl, (blk_cell BK130.out 2).trans rfl⟩ (fun hHeld => ?_)
  clear hK K
  refine norm_ (a' := ?_) ?_ ?_
  rotate_left
  · show Act.put _ (some 14) _ = _
    simp only [Act.put, List.setIfInBounds_toArray, List.set_cons_zero, List.set_cons_succ, i64_w, i32_w]
    rfl
  refine one_ (i := 14) (N := some 19) #[true, true, true, true, true, true, true, true, true, true, true, true, true, true, true, false, false, false] rfl rfl (one_of HT_.out (by kernel_rfl)) (by decide) (fun K hK => ?_)
  refine goes_ Tryz.func138 (by kernel_rfl) rfl #[.string a0_2, .string a1_2] (by rfl) rfl rfl (by (try simp only [List.map_toArray, List.map_cons, List.map_nil]); first | done | rfl | (simp only [List.length_drop, List.length_take]; rfl)) ?_
  with_reducible refine (cmp_Compare_string.calls a0_2 a1_2 t133 _ A5.out).mono ?_
  rintro e w' ⟨rfl, ⟨nd, rfl⟩⟩
  refine ⟨_, rfl, ?_⟩
  refine hK.out _ _ ⟨(blk_cell BK129.out 0).trans rfl, (blk_cell BK129.out 1).trans rfl, (blk_cell BK129.out 2).trans rfl, (blk_cell BK130.out 0).trans rfl, (blk_cell BK130.out 1).trans rfl, (blk_cell BK130.out 2).trans rfl⟩ (fun hHeld => ?_)
  clear hK K
  refine norm_ (a' := ?_) ?_ ?_
  rotate_left
  · show Act.put _ (some 19) _ = _
    simp only [Act.put, List.setIfInBounds_toArray, List.set_cons_zero, List.set_cons_succ, i64_w, i32_w]
    rfl
  refine one_ (i := 15) (N := some 20) #[true, true, true, true, true, true, true, true, true, true, true, true, true, true, true, true, false, false] rfl rfl (one_of HT_.out (by kernel_rfl)) (by decide) (fun K hK => ?_)
  refine litD (Kd.int .i64) _ 3 ?hg (N := 20) ?hd (xs := ([t131, t132, t133] : List Int)) (inner := [.int .i64 t131, .int .i64 t132, .int .i64 t133]) (ok := fun _ => True) (okp := fun _ => True) ?hr ?hp (fun _ hk => hk) trivial (BelowD.refl _ _) (Nat.le_refl _) (by simp) ?_; (case hd => rfl); (case hg => rfl); (case hr => first | (go_simp; done) | (go_simp; rfl)); (case hp => exact (Reps.one (show Kd.M (Kd.int .i64) _ _ _ t131 [.int .i64 t131] from rfl) (Reps.one (show Kd.M (Kd.int .i64) _ _ _ t132 [.int .i64 t132] from rfl) (Reps.one (show Kd.M (Kd.int .i64) _ _ _ t133 [.int .i64 t133] from rfl) (Reps.none _ _)))))
  intro v135 w10 ho11 hb hg_ hnew_
  clear hg_ hnew_
  (first | rw [← Ny134.out] at ho11 | (simp only [Int.reduceToNat] at ho11; rw [← Ny134.out] at ho11))
  have n0_ := Aside0.mk (Kd.R_lower ho11 (belowD_size (by repeat (first | (with_reducible first | exact HB.out | apply dA | apply dN | apply dD | refine below_set ?_ GE129.out | refine below_set ?_ GE130.out) | exact HB.out))))
  have n1_ := Aside0.mk (blk_belowD (g := gb129) (o := .cells #[.int .i64 a0_0, .int .i64 a0_1, .string a0_2] 61 (0, 0)) (by (with_reducible repeat (first | refine zN ?_ _ | refine zD ?_ | refine zA ?_ _)); exact BK129.out) hb)
  have n2_ := Aside0.mk (blk_belowD (g := gb130) (o := .cells #[.int .i64 a1_0, .int .i64 a1_1, .string a1_2] 61 (0, 0)) (by (with_reducible repeat (first | refine zN ?_ _ | refine zD ?_ | refine zA ?_ _)); exact BK130.out) hb)
  have n3_ := Aside0.mk (belowD_step (by repeat (first | (with_reducible first | exact HB.out | apply dA | apply dN | apply dD | refine below_set ?_ GE129.out | refine below_set ?_ GE130.out) | exact HB.out)) hb)
  clear BK129
  clear BK130
  clear HB
  have HO136 := n0_
  have BK129 := n1_
  have BK130 := n2_
  have HB := n3_
  clear n0_ n1_ n2_ n3_
  clear hb ho11
  obtain ⟨Ao12, co12, eo12⟩ := Kd.R_slice HO136.out
  (first | subst eo12 | (injection eo12 with f1_ f2_ f3_; have f4_ := f1_.symm; have f5_ := f3_.symm; clear f1_ f2_ f3_; subst f4_; subst f5_))
  refine hK.out _ _ ⟨(blk_cell BK129.out 0).trans rfl, (blk_cell BK129.out 1).trans rfl, (blk_cell BK129.out 2).trans rfl, (blk_cell BK130.out 0).trans rfl, (blk_cell BK130.out 1).trans rfl, (blk_cell BK130.out 2).trans rfl⟩ (fun hHeld => ?_)
  clear hK K
  refine norm_ (a' := ?_) ?_ ?_
  rotate_left
  · show Act.put _ (some 20) _ = _
    simp only [Act.put, List.setIfInBounds_toArray, List.set_cons_zero, List.set_cons_succ, i64_w, i32_w]
    rfl
  refine one_ (i := 16) (N := some 21) #[true, true, true, true, true, true, true, true, true, true, true, true, true, true, true, true, true, false] rfl rfl (one_of HT_.out (by kernel_rfl)) (by decide) (fun K hK => ?_)
  refine goes_ Tryz.func109 (by kernel_rfl) rfl #[.slice Ao12 y134.length co12] (by rfl) rfl rfl (by (try simp only [List.map_toArray, List.map_cons, List.map_nil]); first | done | rfl | (simp only [List.length_drop, List.length_take]; rfl)) ?_
  with_reducible refine (cmp_Or_int.calls k _ _ y134 t137 _ ?side1 ?side2 A6.out).mono ?_
  (case side1 => repeat (first | exact (Kd.R_reads' HO136.out).2.2 | (with_reducible refine Kd.C_alloc ?_ _) | (with_reducible refine Kd.C_drewN ?_ _) | (with_reducible refine Kd.C_drew ?_)))
  (case side2 => exact (Kd.R_reads' HO136.out).2.1)
  rintro e w' ⟨rfl, ⟨nd, rfl⟩⟩
  refine ⟨_, rfl, ?_⟩
  refine hK.out _ _ ⟨(blk_cell BK129.out 0).trans rfl, (blk_cell BK129.out 1).trans rfl, (blk_cell BK129.out 2).trans rfl, (blk_cell BK130.out 0).trans rfl, (blk_cell BK130.out 1).trans rfl, (blk_cell BK130.out 2).trans rfl⟩ (fun hHeld => ?_)
  clear hK K
  refine norm_ (a' := ?_) ?_ ?_
  rotate_left
  · show Act.put _ (some 21) _ = _
    simp only [Act.put, List.setIfInBounds_toArray, List.set_cons_zero, List.set_cons_succ, i64_w, i32_w]
    rfl
  refine pure_ (i := 17) (N := some 4) (v := ?_) (a' := ?_) #[true, true, true, true, true, true, true, true, true, true, true, true, true, true, true, true, true, true] rfl rfl (any_of HT_.out (by kernel_rfl)) (fun _ _ _ h => h) (Or.inl ⟨by rfl, ?_⟩) ?_ ?_
  rotate_left
  · intro w'
    go_simp
    with_reducible rfl
  rotate_left
  · simp only [Act.put, List.setIfInBounds_toArray, List.set_cons_zero, List.set_cons_succ, i64_w, i32_w]
    rfl
  refine done_ (done_of HT_.out (by kernel_rfl)) ?_
  try go_wp2
  go_ret
  exact ⟨by first | rfl | (simp [errW_none, errW_some] <;> rfl) | (simp [*, errW_none, errW_some] <;> rfl), by repeat (first | (with_reducible first | exact HB.out | apply dA | apply dN | apply dD | refine below_set ?_ GE129.out | refine below_set ?_ GE130.out) | exact HB.out)⟩
theorem or3_at (a b c : Int) : cmp_Or_int.f 4 [a, b, c] = some (if a ≠ 0 then a else if b ≠ 0 then b else c) := by
  have w1 : wrap64 (0 + 1) = 1 := by unfold wrap64; omega
  have w2 : wrap64 (1 + 1) = 2 := by unfold wrap64; omega
  have w3 : wrap64 (2 + 1) = 3 := by unfold wrap64; omega
  have r0 : rd [a, b, c] 0 = a := rfl
  have r1 : rd [a, b, c] 1 = b := rfl
  have r2 : rd [a, b, c] 2 = c := rfl
  have e : ([a, b, c].length : Int) = 3 := rfl
  simp only [cmp_Or_int.f, cmp_Or_int.l0, e, w1, w2, w3, r0, r1, r2]
  by_cases ha : a = 0 <;> by_cases hb : b = 0 <;> by_cases hc : c = 0 <;> simp [ha, hb, hc]
theorem value_Order.at (k i : Int) (s : ByteArray) (k' i' : Int) (s' : ByteArray) : value_Order.f 4 k i s k' i' s' = some (ordV k i s k' i' s') := by
 unfold value_Order.f api_Kind_136_s.f cmp_Compare_int64_s.f cmp_Compare_string.f
 simp only [Option.bind_some, or3_at, cmpB_eq]
 rfl
end Go.Proofs.YtmhobbdedmjmnaaGreatDoor.Q
end
section
/- Each function reached is shown to return what the plain function beside it computes, wherever that is defined (written by a program of ours for this seat). -/
namespace Go.Proofs.YtmhobbdedmjmnaaGreatDoor.Q
open Go.RowKit Go.Proofs.YtmhobbdedmjmnaaGreatDoorW.PrintWords Go.Proofs.YtmhobbdedmjmnaaGreatDoorW.PrintLast Go.Proofs.YtmhobbdedmjmnaaGreatDoorW.PrintMore
attribute [local go_sem] max2_int min2_int max_two min_two max_three min_three max_four min_four   -- for this text's walks alone
set_option linter.unusedVariables false
set_option linter.unusedSimpArgs false
theorem cfR_nil (b : List V) : cfR [] b = if 0 < b.length then -1 else 0 := by
  cases b <;> rfl
theorem cfR_cons (x y : V) (a b : List V) : cfR (x :: a) (y :: b) = if cfV x y ≠ 0 then cfV x y else cfR a b := rfl
set_option maxHeartbeats 2000000 in
set_option maxRecDepth 100000 in
theorem cmpRows.calls (A0 B0 : Option Addr) (c0 c1 : Nat) (a b : List V) (w : World) (hr0 : Kd.C k61 w A0 a.length a) (hr1 : Kd.C k61 w B0 b.length b) (la : a.length ≤ 4611686018427387904) (lb : b.length ≤ 4611686018427387904) :
    Calls Tryz.prog 102 #[.slice A0 a.length c0, .slice B0 b.length c1, .func (.func 101) #[] #[]] w fun e w' => e = .returned (.int .i64 (cfR a b)) ∧ BelowD w.heap.size w w' := by
  have hu61 := Tryz.underlying61
  have eg : ∀ args w, (callFunc 101 args).run Tryz.prog w = .ok (.enter 101 args) w := enters_of Tryz.func101 (by kernel_rfl) rfl
  have HR0 := Aside0.mk hr0
  have HR1 := Aside0.mk hr1
  have HB := Aside0.mk (BelowD.refl w.heap.size w)
  obtain ⟨n, hn⟩ : ∃ n, n = a.length := ⟨_, rfl⟩
  obtain ⟨m, hm⟩ : ∃ m, m = b.length := ⟨_, rfl⟩
  rw [← hn, ← hm]
  have hle : n ≤ 4611686018427387904 := by omega
  have hle2 : m ≤ 4611686018427387904 := by omega
  have HN := Aside0.mk hn
  have HM := Aside0.mk hm
  clear hr0 hr1 hn hm la lb
  go_enter Tryz.func102, Tryz.ntmps102
  go_wp2
  go_loopg [13] n (fun gg s13 wr => ∃ kk : Nat, kk ≤ n ∧ kk ≤ m ∧ n - kk ≤ gg ∧ s13 = .int .i64 kk ∧ Aside0 (BelowD w.heap.size w wr) ∧ Aside0 (cfR a b = cfR (a.drop kk) (b.drop kk)))
  case atStart => exact ⟨0, Nat.zero_le _, Nat.zero_le _, by omega, rfl, HB, ⟨rfl⟩⟩
  case round =>
    clear HB
    obtain ⟨kk, hkk, hkm, hg, rfl, HB, HA⟩ := hrel
    by_cases hlt : kk < n
    · have hltz : (kk : Int) < (n : Int) := by omega
      have hlt' : kk < a.length := by have := HN.out; omega
      obtain ⟨ad, e1, hx0, hx1, hx2⟩ := at_T61 HR0.out (kk : Int) (by omega) (by omega)
      cases e1
      rw [rd_at _ _ hlt'] at hx0 hx1 hx2
      simp only [Int.toNat_natCast] at hx0 hx1 hx2
      replace hx0 := (HB.out.b.cell (World.block_lt_of_cell? w _ hx0)).trans hx0
      replace hx1 := (HB.out.b.cell (World.block_lt_of_cell? w _ hx1)).trans hx1
      replace hx2 := (HB.out.b.cell (World.block_lt_of_cell? w _ hx2)).trans hx2
      have EA := Aside0.mk (List.drop_eq_getElem_cons hlt')
      generalize a[kk] = x at hx0 hx1 hx2 EA
      by_cases hlm : kk < m
      · have hlmz : ¬ (m : Int) ≤ (kk : Int) := by omega
        have hlm' : kk < b.length := by have := HM.out; omega
        have hmz : (kk : Int) < (m : Int) := by omega
        obtain ⟨bd, e2, hy0, hy1, hy2⟩ := at_T61 HR1.out (kk : Int) (by omega) (by omega)
        cases e2
        rw [rd_at _ _ hlm'] at hy0 hy1 hy2
        simp only [Int.toNat_natCast] at hy0 hy1 hy2
        replace hy0 := (HB.out.b.cell (World.block_lt_of_cell? w _ hy0)).trans hy0
        replace hy1 := (HB.out.b.cell (World.block_lt_of_cell? w _ hy1)).trans hy1
        replace hy2 := (HB.out.b.cell (World.block_lt_of_cell? w _ hy2)).trans hy2
        have EB := Aside0.mk (List.drop_eq_getElem_cons hlm')
        generalize b[kk] = y at hy0 hy1 hy2 EB
        replace hy0 := fun o => Lib.cell?_alloc_some o hy0
        replace hy1 := fun o => Lib.cell?_alloc_some o hy1
        replace hy2 := fun o => Lib.cell?_alloc_some o hy2
        have HC := Aside0.mk (fun W => value_Order.grows 4 x.f0 x.f1 x.f2 y.f0 y.f1 y.f2 (cfV x y) W (by rw [value_Order.at]; rfl))
        clear hlt' hlm'
        by_cases hc : cfV x y = 0
        · rw [hc] at HC
          have HZ := Aside0.mk hc
          clear hc
          go_wp2_with (go_at_fn 101; refine (HC.out _).mono ?_; rintro e w' ⟨rfl, hb'⟩)
          go_roundg (n - (kk + 1))
          case measure => omega
          case rel =>
            refine ⟨kk + 1, by omega, by omega, Nat.le_refl _, by go_num, ⟨belowD_step (dA (dA HB.out _) _) hb'⟩, ⟨?_⟩⟩
            rw [HA.out, EA.out, EB.out, cfR_cons, if_neg (by rw [HZ.out]; simp)]
        · have hcz : (cfV x y != 0) = true := by simpa using hc
          have HZ := Aside0.mk hc
          have HE : Aside0 (cfR a b = cfV x y) := ⟨by rw [HA.out, EA.out, EB.out, cfR_cons, if_pos HZ.out]⟩
          clear hc
          generalize cfV x y = r at HC hcz HE
          go_wp2_with (go_at_fn 101; refine (HC.out _).mono ?_; rintro e w' ⟨rfl, hb'⟩)
          go_ret
          exact ⟨by rw [HE.out]; rfl, belowD_step (dA (dA HB.out _) _) hb'⟩
      · have hlmz : (m : Int) ≤ (kk : Int) := by omega
        have HE : Aside0 (cfR a b = 1) := ⟨by
          rw [HA.out, EA.out, List.drop_of_length_le (show b.length ≤ kk by have := HM.out; omega)]
          rfl⟩
        go_wp2
        go_ret
        exact ⟨by rw [HE.out]; rfl, dA HB.out _⟩
    · have hkn : kk = n := by omega
      have HE : Aside0 (cfR a b = if n < m then -1 else 0) := ⟨by
        rw [HA.out, List.drop_of_length_le (show a.length ≤ kk by have := HN.out; omega), cfR_nil, List.length_drop, ← HM.out]
        by_cases q : n < m
        · rw [if_pos q, if_pos (by omega)]
        · rw [if_neg q, if_neg (by omega)]⟩
      subst hkn
      by_cases q : kk < m
      · have qz : (kk : Int) < (m : Int) := by omega
        go_wp2
        go_ret
        exact ⟨by rw [HE.out, if_pos q]; rfl, HB.out⟩
      · have qz : ¬ (kk : Int) < (m : Int) := by omega
        go_wp2
        go_ret
        exact ⟨by rw [HE.out, if_neg q]; rfl, HB.out⟩
def rows_Order.f (l0 l1 : List V) : Option Int := if l0.length ≤ 4611686018427387904 ∧ l1.length ≤ 4611686018427387904 then some (cfR l0 l1) else none
set_option maxHeartbeats 1000000 in
theorem rows_Order.grows (A0 A1 : Option Addr) (c0 c1 : Nat) (l0 l1 : List V) (r : Int) (w : World) (hr0 : Kd.C k61 w A0 l0.length l0) (hr1 : Kd.C k61 w A1 l1.length l1) (h : rows_Order.f l0 l1 = some r) :
    Calls Tryz.prog 63 #[.slice A0 l0.length c0, .slice A1 l1.length c1] w fun e w' => e = .returned (.int .i64 r) ∧ BelowD w.heap.size w w' := by
  unfold rows_Order.f at h
  by_cases hl : l0.length ≤ 4611686018427387904 ∧ l1.length ≤ 4611686018427387904
  case neg => rw [if_neg hl] at h; cases h
  rw [if_pos hl] at h
  obtain rfl := Option.some.inj h
  have HC := Aside0.mk (cmpRows.calls A0 A1 c0 c1 l0 l1 w hr0 hr1 hl.1 hl.2)
  clear hr0 hr1 hl h
  generalize cfR l0 l1 = r at HC ⊢
  generalize l0.length = n at HC ⊢
  generalize l1.length = m at HC ⊢
  go_enter Tryz.func63, Tryz.ntmps63
  go_wp2_with (go_at_call 102; refine HC.out.mono ?_; rintro e w' ⟨rfl, hb'⟩)
  go_ret
  exact ⟨rfl, hb'⟩
/-- a row's header and what it holds, at a world -/
abbrev HdV (w : World) (base : Nat) (ok : Nat → Prop) : Type := {p : Value × List V // Kd.R k61 61 w base ok p.1 p.2 ∧ p.2.length ≤ 4611686018427387904}
instance (w : World) (base : Nat) (ok : Nat → Prop) : Inhabited (HdV w base ok) := ⟨⟨(.slice none 0 0, []), Kd.R_nil _ _ _ _ _, by decide⟩⟩
/-! ### api_Value_145: function 145 -/
section
open Go.Sort
set_option maxHeartbeats 4000000 in
set_option maxRecDepth 100000 in
theorem compR.calls {α : Type} (d : Kd α) (hsz : d.sz = 1) (f : α → List V) (hform : ∀ (W : World) (b : Nat) (o : Nat → Prop) (x : α) (c : Value), d.M W b o x [c] → ∃ A n cc, c = .slice A n cc)
    (g1 : Nat) (lb : Array Value) (eg : ∀ args w, (callFunc g1 args).run Tryz.prog w = .ok (.enter g1 args) w) (g o cap : Nat) (xs : List α) (w : World) (base : Nat) (ok : Nat → Prop) (ho : o = 0) (h : Kd.R d 40 w base ok (.slice (some ⟨g, o, none⟩) xs.length cap) xs) (hlen : xs.length < 4611686018427387904)
    (hp : ∀ (x y : α) (cx cy : Value) (W : World), x ∈ xs → y ∈ xs → d.M W base (fun k => ok k ∧ some k ≠ (Value.slice (some ⟨g, 0, none⟩) xs.length cap).ownBlock) x [cx] → d.M W base (fun k => ok k ∧ some k ≠ (Value.slice (some ⟨g, 0, none⟩) xs.length cap).ownBlock) y [cy] → (∀ k, k < w.heap.size → k ≠ g → W.heap[k]? = w.heap[k]?) →
      Calls Tryz.prog g1 (#[cx, cy] ++ lb) W fun e w' => e = .returned (.bool (decide (f x = f y))) ∧ BelowD W.heap.size W w') :
    Calls Tryz.prog 145 #[.slice (some ⟨g, o, none⟩) xs.length cap, .func (.func g1) #[] lb] w fun e w' => ∃ c' : Nat, e = .returned (.slice (some ⟨g, o, none⟩) (onceU f xs xs.length).length c') ∧ Kd.R d 40 w' base ok (.slice (some ⟨g, o, none⟩) (onceU f xs xs.length).length c') (onceU f xs xs.length) ∧ (∀ (B : Nat) (w0 : World), B ≤ base → Below B w0 w → B ≤ w.heap.size → Below B w0 w') := by
  have mixed : Tryz.prog.follows .mixedOrders = true := by kernel_rfl
  have HO := Aside0.mk ho
  have HR := Aside0.mk h
  have HP := Aside0.mk hp
  have HF := Aside0.mk hform
  have HSZ := Aside0.mk hsz
  have hbg : base ≤ g ∧ g < w.heap.size ∧ xs.length ≤ cap := by
    obtain ⟨inner, hw⟩ := Kd.R_own h
    rcases hw.2 with ⟨he, _⟩ | ⟨g', cap', cur, he, hb, hh, hc, _⟩
    · cases he
    · injection he with he1 he2 he3
      injection he1 with he1
      injection he1 with he1
      subst he1 he3
      exact ⟨hb, blk_lt hh, hc⟩
  have HG := Aside0.mk hbg
  clear h hp ho hbg hform hsz
  obtain ⟨n, hn⟩ : ∃ n, n = xs.length := ⟨_, rfl⟩
  have HN := Aside0.mk hn
  rw [← hn]
  clear hn
  have hle : n < 4611686018427387904 := by have := HN.out; omega
  clear hlen
  -- an element's cell, and what it holds, in whatever world that has grown from here
  have HCELL : Aside0 (∀ (W : World) (ys : List α), ys.length = n → Kd.R d 40 W base ok (.slice (some ⟨g, 0, none⟩) n cap) ys → ∀ i (hi : i < ys.length), ∃ A m cc, W.cell? ⟨g, i, none⟩ = some (.slice A m cc) ∧ d.M W base (fun k => ok k ∧ some k ≠ (Value.slice (some ⟨g, 0, none⟩) n cap).ownBlock) ys[i] [.slice A m cc]) := ⟨fun W ys hl hR i hi => by
    obtain ⟨c, h1, h2, _⟩ := row_at1 HSZ.out hR i hi
    obtain ⟨A, m, cc, rfl⟩ := HF.out _ _ _ _ _ h2
    exact ⟨A, m, cc, h1, h2⟩⟩
  by_cases h2 : n < 2
  · have h2z : decide ((n : Int) < 2) = true := by simp; omega
    go_enter Tryz.func145, Tryz.ntmps145
    go_wp2
    go_ret
    have e : onceU f xs n = xs := by rw [HN.out]; exact onceU_one f xs (by have := HN.out; omega)
    refine ⟨cap, by rw [e, ← HN.out]; rfl, ?_, fun B w0 _ hB _ => hB⟩
    rw [e]
    exact HR.out
  · have h2z : decide ((n : Int) < 2) = false := by simp; omega
    go_enter Tryz.func145, Tryz.ntmps145
    go_wp2
    go_loopg [5] n (fun gg s5 wr => ∃ k : Nat, 1 ≤ k ∧ k ≤ n ∧ n - k ≤ gg ∧ s5 = .int .i64 k ∧ Aside0 (Below w.heap.size w wr) ∧ Aside0 (∀ j, j < k → Lib.keeps (xs.map f).toArray j = true))
    case atStart => exact ⟨1, Nat.le_refl _, by omega, by omega, rfl, ⟨Below.refl _ _⟩, ⟨Lib.keeps_lt_one _⟩⟩
    case round =>
      obtain ⟨k, hk1, hk, hg, rfl, HB, HA⟩ := hrel
      by_cases hlt : k < n
      · obtain ⟨kp, rfl⟩ : ∃ kp, k = kp + 1 := ⟨k - 1, by omega⟩
        have hwp : IntKind.i64.wrap (kp : Int) = (kp : Int) := by rw [IntKind.wrap_i64]; omega
        have jz : (kp : Int) + 1 < (n : Int) := by omega
        have jz1 : (kp : Int) < (n : Int) := by omega
        have p0 : (0 : Int) ≤ (kp : Int) + 1 := by omega
        have e0 : ((kp : Int) + 1).toNat = kp + 1 := by omega
        have hgw : g < wr.heap.size := Nat.lt_of_lt_of_le HG.out.2.1 HB.out.size
        have hR1 : Kd.R d 40 wr base ok (.slice (some ⟨g, 0, none⟩) n cap) xs := by
          have h5 := Kd.R_below HR.out HB.out
          rw [HO.out, ← HN.out] at h5
          exact h5
        have i1 : kp + 1 < xs.length := by have := HN.out; omega
        have i2 : kp < xs.length := by have := HN.out; omega
        obtain ⟨Ax, mx, cx, hcx, hMx⟩ := HCELL.out wr xs HN.out.symm hR1 (kp + 1) i1
        obtain ⟨Ay, my, cy, hcy, hMy⟩ := HCELL.out wr xs HN.out.symm hR1 kp i2
        have cx0 : ∀ q os, (grow (wr.drewN q) os).cell? ⟨g, o + (kp + 1), none⟩ = some (.slice Ax mx cx) := fun q os => by
          rw [HO.out, Nat.zero_add]; exact cell_grown hgw hcx q os
        have cy0 : ∀ q os, (grow (wr.drewN q) os).cell? ⟨g, o + kp, none⟩ = some (.slice Ay my cy) := fun q os => by
          rw [HO.out, Nat.zero_add]; exact cell_grown hgw hcy q os
        have hcg : ∀ q os, Calls Tryz.prog g1 (#[.slice Ax mx cx, .slice Ay my cy] ++ lb) (grow (wr.drewN q) os) fun e w' => e = .returned (.bool (decide (f xs[kp + 1] = f xs[kp]))) ∧ ∃ q' os', w' = grow ((grow (wr.drewN q) os).drewN q') os' := fun q os =>
          (HP.out xs[kp + 1] xs[kp] _ _ _ (List.getElem_mem i1) (List.getElem_mem i2)
            (by rw [← HN.out]; exact Kd.M_below hMx (below_grownW (Below.refl _ _) (Nat.le_refl _) q os))
            (by rw [← HN.out]; exact Kd.M_below hMy (below_grownW (Below.refl _ _) (Nat.le_refl _) q os))
            (fun k hk1 hk2 => by
              show (wr.heap ++ os)[k]? = _
              rw [Array.getElem?_append_left (Nat.lt_of_lt_of_le hk1 HB.out.size)]
              exact HB.out.block k hk1)).mono fun _ _ ⟨he, hb⟩ => ⟨he, hb.grown⟩
        have HKP : Aside0 (Lib.keeps (xs.map f).toArray (kp + 1) = !decide (f xs[kp + 1] = f xs[kp])) := ⟨keeps_at (f := f) (Nat.succ_pos _) i1⟩
        generalize decide (f xs[kp + 1] = f xs[kp]) = b at hcg HKP
        clear hR1 hcx hMx hcy hMy i1 i2
        cases b with
        | true =>
          go_wp2_with fail
          go_quiet_grown (first | (go_at_fn g1; refine Calls.grown_of (hcg _ _)))
          have HB1 := Aside0.mk (below_grownW HB.out HB.out.size nq osq)
          clear hcg cx0 cy0 HB hgw
          generalize grow (wr.drewN nq) osq = wq at HB1 ⊢
          have cp1 : (kp : Int) + 1 ≤ (n : Int) := by omega
          have cp2 : (n : Int) ≤ (cap : Int) := by have := HG.out.2.2; have := HN.out; omega
          have cp3 : ¬ cap = kp + 1 := by have := HG.out.2.2; have := HN.out; omega
          go_wp2
          go_loopg [5, 7] n (fun gg s5 s7 wr => ∃ (kk k2 : Nat), s5 = .int .i64 kk ∧ s7 = .int .i64 k2 ∧ 1 ≤ k2 ∧ kp + 1 + k2 ≤ n ∧ n - (kp + 1 + k2) ≤ gg ∧ kk < kp + 1 + k2 ∧ Aside0 (kk = (onceU f xs (kp + 1 + k2)).length) ∧ Aside0 (w.grownBy wr (some g)) ∧ Aside0 (Kd.R d 40 wr base ok (.slice (some ⟨g, 0, none⟩) n cap) (onceU f xs (kp + 1 + k2) ++ xs.drop (onceU f xs (kp + 1 + k2)).length)))
          case atStart =>
            have e1 : onceU f xs (kp + 1 + 1) = xs.take (kp + 1) := by rw [onceU_skip (by rw [HKP.out]; rfl), onceU_all f xs (kp + 1) HA.out]
            have e2 : (xs.take (kp + 1)).length = kp + 1 := by rw [List.length_take]; have := HN.out; omega
            refine ⟨kp + 1, 1, by go_num, rfl, Nat.le_refl _, by omega, by omega, by omega, ⟨by rw [e1, e2]⟩, ⟨grownBy_of_below HB1.out _⟩, ⟨?_⟩⟩
            rw [e1, e2, List.take_append_drop]
            have h5 := Kd.R_below HR.out HB1.out
            rw [HO.out, ← HN.out] at h5
            exact h5
          case round =>
            obtain ⟨kk, k2, rfl, rfl, h1, hle2, hg2, hkk, HKK, HGR, HRY⟩ := hrel
            have hgw : g < wr.heap.size := Nat.lt_of_lt_of_le HG.out.2.1 HGR.out.size
            have hcl : (onceU f xs (kp + 1 + k2) ++ xs.drop (onceU f xs (kp + 1 + k2)).length).length = n := by rw [cut_len (by have := HN.out; omega), HN.out]
            by_cases hlt2 : kp + 1 + k2 < n
            · obtain ⟨kq, rfl⟩ : ∃ kq, k2 = kq + 1 := ⟨k2 - 1, by omega⟩
              have hwq : IntKind.i64.wrap (kq : Int) = (kq : Int) := by rw [IntKind.wrap_i64]; omega
              have qz : (kq : Int) + 1 < (n : Int) - ((kp : Int) + 1) := by omega
              have qz1 : (kq : Int) < (n : Int) - ((kp : Int) + 1) := by omega
              have qn : kq + 1 < n - (kp + 1) := by omega
              have qn1 : kq < n - (kp + 1) := by omega
              have q0 : (0 : Int) ≤ (kq : Int) + 1 := by omega
              have qe0 : ((kq : Int) + 1).toNat = kq + 1 := by omega
              have i1 : kp + 1 + (kq + 1) < xs.length := by have := HN.out; omega
              have i2 : kp + 1 + kq < xs.length := by have := HN.out; omega
              obtain ⟨Au, mu, cu, hcu, hMu⟩ := HCELL.out wr _ hcl HRY.out (kp + 1 + (kq + 1)) (by rw [hcl]; exact hlt2)
              obtain ⟨Av, mv, cv, hcv, hMv⟩ := HCELL.out wr _ hcl HRY.out (kp + 1 + kq) (by rw [hcl]; omega)
              have gu : (onceU f xs (kp + 1 + (kq + 1)) ++ xs.drop (onceU f xs (kp + 1 + (kq + 1))).length)[kp + 1 + (kq + 1)]'(by rw [hcl]; exact hlt2) = xs[kp + 1 + (kq + 1)] := (List.getElem?_eq_some_iff.1 (cut_at (f := f) (l := xs) (m := kp + 1 + (kq + 1)) (j := kp + 1 + (kq + 1)) (by have := HKK.out; omega) i1)).2
              have gv : (onceU f xs (kp + 1 + (kq + 1)) ++ xs.drop (onceU f xs (kp + 1 + (kq + 1))).length)[kp + 1 + kq]'(by rw [hcl]; omega) = xs[kp + 1 + kq] := (List.getElem?_eq_some_iff.1 (cut_at (f := f) (l := xs) (m := kp + 1 + (kq + 1)) (j := kp + 1 + kq) (by have := HKK.out; omega) i2)).2
              rw [gu] at hMu
              rw [gv] at hMv
              have cu0 : ∀ q os, (grow (wr.drewN q) os).cell? ⟨g, o + (kp + 1) + (kq + 1), none⟩ = some (.slice Au mu cu) := fun q os => by
                rw [HO.out, Nat.zero_add]; exact cell_grown hgw hcu q os
              have cv0 : ∀ q os, (grow (wr.drewN q) os).cell? ⟨g, o + (kp + 1) + kq, none⟩ = some (.slice Av mv cv) := fun q os => by
                rw [HO.out, Nat.zero_add]; exact cell_grown hgw hcv q os
              have hcg : ∀ q os, Calls Tryz.prog g1 (#[.slice Au mu cu, .slice Av mv cv] ++ lb) (grow (wr.drewN q) os) fun e w' => e = .returned (.bool (decide (f xs[kp + 1 + (kq + 1)] = f xs[kp + 1 + kq]))) ∧ ∃ q' os', w' = grow ((grow (wr.drewN q) os).drewN q') os' := fun q os =>
                (HP.out xs[kp + 1 + (kq + 1)] xs[kp + 1 + kq] _ _ _ (List.getElem_mem i1) (List.getElem_mem i2)
                  (by rw [← HN.out]; exact Kd.M_below hMu (below_grownW (Below.refl _ _) (Nat.le_refl _) q os))
                  (by rw [← HN.out]; exact Kd.M_below hMv (below_grownW (Below.refl _ _) (Nat.le_refl _) q os))
                  (fun k hk1 hk2 => (grownBy_growW HGR.out q os).block k hk1 (fun e => hk2 (Option.some.inj e)))).mono fun _ _ ⟨he, hb⟩ => ⟨he, hb.grown⟩
              have HKQ : Aside0 (Lib.keeps (xs.map f).toArray (kp + 1 + (kq + 1)) = !decide (f xs[kp + 1 + (kq + 1)] = f xs[kp + 1 + kq])) := ⟨keeps_at (f := f) (by omega) i1⟩
              have HMU := Aside0.mk hMu
              have HCU := Aside0.mk hcu
              generalize decide (f xs[kp + 1 + (kq + 1)] = f xs[kp + 1 + kq]) = b at hcg HKQ
              have I1 := Aside0.mk i1
              clear hcu hcv hMu hMv gu gv i2 hcl
              cases b with
              | true =>
                clear HMU i1
                go_wp2_with fail
                go_quiet_grown (first | (go_at_fn g1; refine Calls.grown_of (hcg _ _)))
                go_wp2
                go_roundg (n - (kp + 1 + (kq + 1 + 1)))
                case measure => omega
                case rel =>
                  have e1 : onceU f xs (kp + 1 + (kq + 1 + 1)) = onceU f xs (kp + 1 + (kq + 1)) := by
                    rw [show kp + 1 + (kq + 1 + 1) = kp + 1 + (kq + 1) + 1 by omega]
                    exact onceU_skip (by rw [HKQ.out]; rfl)
                  refine ⟨kk, kq + 1 + 1, rfl, by go_num, by omega, by omega, Nat.le_refl _, by omega, ⟨by rw [e1]; exact HKK.out⟩, ⟨grownBy_growW HGR.out _ _⟩, ⟨?_⟩⟩
                  rw [e1]
                  exact Kd.R_below HRY.out (below_grownW (Below.refl _ _) (Nat.le_refl _) _ _)
              | false =>
                go_wp2_with fail
                go_quiet_grown (first | (go_at_fn g1; refine Calls.grown_of (hcg _ _)))
                have HG3 := Aside0.mk (grownBy_growW HGR.out nq osq)
                have HR3 := Aside0.mk (Kd.R_below HRY.out (below_grownW (Below.refl _ _) (Nat.le_refl _) nq osq))
                have HM3 := Aside0.mk (Kd.M_below HMU.out (below_grownW (Below.refl _ _) (Nat.le_refl _) nq osq))
                have du0 := cu0 nq osq
                clear cu0 cv0 hcg HGR HRY HMU
                generalize grow (wr.drewN nq) osq = w3 at HG3 HR3 HM3 du0 ⊢
                have kz : (kk : Int) < (n : Int) := by omega
                obtain ⟨ck, ck1, ck2, fk0⟩ := row_at1 HSZ.out HR3.out kk (by rw [cut_len (by have := HN.out; omega)]; have := HN.out; omega)
                have ck0 : w3.cell? ⟨g, o + kk, none⟩ = some ck := by rw [HO.out, Nat.zero_add]; exact ck1
                have fk1 : w3.frozen? ⟨g, o + kk, none⟩ = false := by rw [HO.out, Nat.zero_add]; exact fk0
                clear ck1 ck2 fk0
                go_wp2
                go_roundg (n - (kp + 1 + (kq + 1 + 1)))
                case measure => omega
                case rel =>
                  obtain ⟨hp1, hp2⟩ := row_put1 HSZ.out HR3.out kk (by omega) xs[kp + 1 + (kq + 1)] _ HM3.out
                  have e1 := onceU_keep (f := f) I1.out (by rw [HKQ.out]; rfl)
                  have e2 : (onceU f xs (kp + 1 + (kq + 1 + 1))).length = kk + 1 := by
                    rw [show kp + 1 + (kq + 1 + 1) = kp + 1 + (kq + 1) + 1 by omega, e1, List.length_append, ← HKK.out]; rfl
                  have e3 := cut_put (f := f) I1.out (by rw [← HKK.out]; have := HN.out; omega) (by rw [HKQ.out]; rfl)
                  refine ⟨kk + 1, kq + 1 + 1, by go_num, by go_num, by omega, by omega, Nat.le_refl _, by omega, ⟨e2.symm⟩, ⟨?_⟩, ⟨?_⟩⟩
                  · rw [HO.out, Nat.zero_add]; exact grownBy_on HG3.out hp2
                  · rw [show kp + 1 + (kq + 1 + 1) = kp + 1 + (kq + 1) + 1 by omega, ← e3, HO.out, Nat.zero_add, ← HKK.out]
                    rw [← HKK.out] at hp1
                    exact hp1
            · have hend : kp + 1 + k2 = n := by omega
              have kz : (kk : Int) ≤ (n : Int) := by omega
              have kz1 : kk ≤ n := by omega
              have kz2 : ¬ cap = kk := by have := HG.out.2.2; have := HN.out; omega
              have kend : ¬ (k2 : Int) < (n : Int) - ((kp : Int) + 1) := by omega
              have kend1 : ¬ k2 < n - (kp + 1) := by omega
              have hcl2 : ∀ ty, (Builtin.clear_ #[22] ty #[.slice (some ⟨g, o + kk, none⟩) (n - kk) (cap - kk)]).run Tryz.prog wr = .ok (.tuple #[]) (wr.setCells g (o + kk) (Builtin.zeroCells #[.slice none 0 0] (n - kk)).toList) := fun ty => by
                have h6 : ∀ j, j < n - kk → (wr.cell? ⟨g, o + kk + j, none⟩).isSome = true ∧ wr.frozen? ⟨g, o + kk + j, none⟩ = false := fun j hj => by
                  obtain ⟨c, h7, _, h8⟩ := row_at1 HSZ.out HRY.out (kk + j) (by rw [hcl]; omega)
                  rw [HO.out, Nat.zero_add, h7]
                  exact ⟨rfl, h8⟩
                exact run_clear_R ty g (o + kk) (n - kk) (cap - kk) (by omega) (fun j hj => (h6 j hj).1) (fun j hj => (h6 j hj).2)
              have HRC := Aside0.mk (row_cut1 HSZ.out HRY.out kk (by rw [hcl]; omega) (Builtin.zeroCells #[.slice none 0 0] (n - kk)).toList)
              have HEND := Aside0.mk hend
              clear hend hkk hcl
              generalize (Builtin.zeroCells #[.slice none 0 0] (n - kk)).toList = zs at hcl2 HRC
              go_wp2
              go_ret
              have e : onceU f xs n = onceU f xs (kp + 1 + k2) := by rw [HEND.out]
              have e3 : wr.setCells g (o + kk) zs = wr.setCells g kk zs := by rw [HO.out, Nat.zero_add]
              refine ⟨cap, by rw [e, ← HKK.out]; rfl, ?_, fun B w0 hB hb hs => ?_⟩
              · rw [e3, e, ← HKK.out, HO.out]
                have h9 := HRC.out.1
                rw [HKK.out, cut_take, ← HKK.out] at h9
                exact h9
              · rw [e3]
                exact below_of_grownBy hb hs (Nat.le_trans hB HG.out.1) (grownBy_on HGR.out HRC.out.2)
        | false =>
          go_wp2_with fail
          go_quiet_grown (first | (go_at_fn g1; refine Calls.grown_of (hcg _ _)))
          go_wp2
          go_roundg (n - (kp + 1 + 1))
          case measure => omega
          case rel =>
            refine ⟨kp + 1 + 1, by omega, by omega, Nat.le_refl _, by go_num, ⟨below_grownW HB.out HB.out.size _ _⟩, ⟨fun j hj => ?_⟩⟩
            by_cases e : j = kp + 1
            · subst e
              rw [HKP.out]; rfl
            · exact HA.out j (by omega)
      · have hkn : k = n := by omega
        subst hkn
        go_wp2
        go_ret
        have e : onceU f xs k = xs := by rw [onceU_all f xs k HA.out, HN.out, List.take_length]
        refine ⟨cap, by rw [e, ← HN.out]; rfl, ?_, fun B w0 hB hb hs => below_then hb hs HB.out⟩
        rw [e]
        exact Kd.R_below HR.out HB.out
set_option maxHeartbeats 1000000 in
theorem compR_none.calls (fv : Value) (w : World) : Calls Tryz.prog 145 #[.slice none 0 0, fv] w fun e w' => e = .returned (.slice none 0 0) ∧ w' = w := by
 go_enter Tryz.func145, Tryz.ntmps145
 go_wp2
 go_ret
 exact ⟨rfl, rfl⟩
end
end Go.Proofs.YtmhobbdedmjmnaaGreatDoor.Q
end
section
/- Each function reached is shown to return what the plain function beside it computes, wherever that is defined (written by a program of ours for this seat). -/
namespace Go.Proofs.YtmhobbdedmjmnaaGreatDoor.Q
open Go.RowKit Go.Proofs.YtmhobbdedmjmnaaGreatDoorW.PrintWords Go.Proofs.YtmhobbdedmjmnaaGreatDoorW.PrintLast Go.Proofs.YtmhobbdedmjmnaaGreatDoorW.PrintMore
attribute [local go_sem] max2_int min2_int max_two min_two max_three min_three max_four min_four   -- for this text's walks alone
set_option linter.unusedVariables false
set_option linter.unusedSimpArgs false
theorem M_row_reads {e : Nat} {W : World} {b : Nat} {o : Nat → Prop} {x : List V} {c : Value} (h : (Kd.slice e k61).M W b o x [c]) : ∃ A cc, c = .slice A x.length cc ∧ x.length ≤ cc ∧ Kd.C k61 W A x.length x := by
  obtain ⟨v, hv, hR⟩ := h
  obtain ⟨A, cc, e1, h1, h2⟩ := Kd.R_reads hR
  have : c = v := by simpa using hv
  exact ⟨A, cc, this.trans e1, h1, h2⟩
set_option maxHeartbeats 1000000 in
theorem onceEqR.calls (gb : Nat) (x y : List V) (A0 A1 : Option Addr) (c0 c1 : Nat) (W : World) (hc : W.cell? ⟨gb, 0, none⟩ = some (.func (.func 63) #[] #[])) (hx : Kd.C k61 W A0 x.length x) (hy : Kd.C k61 W A1 y.length y) (lx : x.length ≤ 4611686018427387904) (ly : y.length ≤ 4611686018427387904) :
    Calls Tryz.prog 146 (#[.slice A0 x.length c0, .slice A1 y.length c1] ++ #[.pointer (some ⟨gb, 0, none⟩)]) W fun e w' => e = .returned (.bool (decide (x = y))) ∧ BelowD W.heap.size W w' := by
  have eg : ∀ args w, (callFunc 63 args).run Tryz.prog w = .ok (.enter 63 args) w := enters_of Tryz.func63 (by kernel_rfl) rfl
  have HC := Aside0.mk (rows_Order.grows A0 A1 c0 c1 x y (cfR x y) W hx hy (by unfold rows_Order.f; rw [if_pos ⟨lx, ly⟩]))
  have HE : Aside0 ((cfR x y == 0) = decide (x = y)) := ⟨by
    by_cases h : x = y
    · rw [decide_eq_true h, h, cfR_tc.refl]; rfl
    · rw [decide_eq_false h]
      have : cfR x y ≠ 0 := fun e => h (cfR_tc.same x y e)
      simpa using this⟩
  rw [← HE.out]
  clear HE hx hy lx ly
  generalize cfR x y = r at HC ⊢
  generalize x.length = n at HC ⊢
  generalize y.length = m at HC ⊢
  go_enter Tryz.func146, Tryz.ntmps146
  go_wp2_with (go_at_fn 63; refine HC.out.mono ?_; rintro e w' ⟨rfl, hb⟩)
  go_ret
  exact ⟨rfl, hb⟩
/-! ### api_Value_113: function 113 -/
section
open Go.Sort
theorem order_at (x y : List V) (cx cy : Value) (W : World) (b : Nat) (o : Nat → Prop) (hx : (Kd.slice 61 k61).M W b o x [cx]) (hy : (Kd.slice 61 k61).M W b o y [cy]) (lx : x.length ≤ 4611686018427387904) (ly : y.length ≤ 4611686018427387904) :
    Calls Tryz.prog 63 (#[cx, cy] ++ #[]) W fun e w' => e = .returned (.int .i64 (cfR x y)) ∧ BelowD W.heap.size W w' := by
  obtain ⟨A0, c0, rfl, _, hC0⟩ := M_row_reads hx
  obtain ⟨A1, c1, rfl, _, hC1⟩ := M_row_reads hy
  exact rows_Order.grows A0 A1 c0 c1 x y (cfR x y) W hC0 hC1 (by unfold rows_Order.f; rw [if_pos ⟨lx, ly⟩])
/-- the rows in canonical order -/
theorem sortR_can (v : Value) (xs : List (List V)) (w : World) (base : Nat) (ok : Nat → Prop) (h : Kd.S (Kd.slice 61 k61) 40 w base ok v xs) (hl : okR xs = true) :
    Calls Tryz.prog 60 #[v, .func (.func 63) #[] #[]] w fun e' w' => e' = .returned (.tuple #[]) ∧ Kd.S (Kd.slice 61 k61) 40 w' base ok v (canR xs) ∧ w.grownBy w' v.ownBlock ∧ (∀ (B : Nat) (w0 : World), B ≤ base → Below B w0 w → B ≤ w.heap.size → Below B w0 w') := by
  have hl' := okR_spec hl
  have eg : ∀ args w, (callFunc 63 args).run Tryz.prog w = .ok (.enter 63 args) w := enters_of Tryz.func63 (by kernel_rfl) rfl
  have hc := sortS Tryz.sortR (Kd.slice 61 k61) rfl 40 cfR cfR_tc 63 #[] eg v xs w base ok h (by have := hl'.1; omega) (fun x y cx cy W hx hy hMx hMy _ => order_at x y cx cy W _ _ hMx hMy (by have := hl'.2 x hx; omega) (by have := hl'.2 y hy; omega))
  change Calls Tryz.prog 60 _ _ _ at hc
  exact hc
theorem compRany.calls (g1 : Nat) (lb : Array Value) (eg : ∀ args w, (callFunc g1 args).run Tryz.prog w = .ok (.enter g1 args) w) (v : Value) (xs : List (List V)) (w : World) (base : Nat) (ok : Nat → Prop) (h : Kd.S (Kd.slice 61 k61) 40 w base ok v xs) (hlen : xs.length < 4611686018427387904)
    (hp : ∀ (x y : List V) (cx cy : Value) (W : World), x ∈ xs → y ∈ xs → (∃ A c, cx = .slice A x.length c ∧ Kd.C k61 W A x.length x) → (∃ A c, cy = .slice A y.length c ∧ Kd.C k61 W A y.length y) → (∀ k, k < w.heap.size → some k ≠ v.ownBlock → W.heap[k]? = w.heap[k]?) →
      Calls Tryz.prog g1 (#[cx, cy] ++ lb) W fun e w' => e = .returned (.bool (decide (x = y))) ∧ BelowD W.heap.size W w') :
    Calls Tryz.prog 145 #[v, .func (.func g1) #[] lb] w fun e w' => ∃ v' : Value, e = .returned v' ∧ Kd.S (Kd.slice 61 k61) 40 w' base ok v' (onceOf xs) ∧ (∀ (B : Nat) (w0 : World), B ≤ base → Below B w0 w → B ≤ w.heap.size → Below B w0 w') := by
  have h' := h
  obtain ⟨fo, hR⟩ := h
  have hl2 := List.length_zipIdx (l := xs) (i := 0)
  obtain ⟨inner, ho⟩ := Kd.R_own hR
  rcases ho.2 with ⟨rfl, h0⟩ | ⟨g, cap, cur, rfl, hb, hh, _⟩
  · have hx : xs = [] := List.length_eq_zero_iff.1 (by omega)
    subst hx
    refine (compR_none.calls (.func (.func g1) #[] lb) w).mono ?_
    rintro e w' ⟨rfl, rfl⟩
    exact ⟨_, rfl, h', fun _ _ _ hB _ => hB⟩
  · have mem1 : ∀ p ∈ xs.zipIdx, p.1 ∈ xs := fun p hp => List.fst_mem_of_mem_zipIdx hp
    have rd : ∀ (W : World) (b : Nat) (o : Nat → Prop) (x : List V × Nat) (c : Value), (Kd.tag fo (Kd.slice 61 k61)).M W b o x [c] → ∃ A cc, c = .slice A x.1.length cc ∧ Kd.C k61 W A x.1.length x.1 := fun W b o x c hM => by
      obtain ⟨A, cc, e1, _, e2⟩ := M_row_reads (e := 61) (x := x.1) hM
      exact ⟨A, cc, e1, e2⟩
    refine (compR.calls (Kd.tag fo (Kd.slice 61 k61)) rfl Prod.fst (fun W b o x c hM => by
      obtain ⟨A, cc, e1, _⟩ := rd W b o x c hM
      exact ⟨A, _, cc, e1⟩) g1 lb eg g 0 cap xs.zipIdx w base ok rfl hR (by rw [hl2]; exact hlen) (fun x y cx cy W hx hy hMx hMy hk => hp x.1 y.1 cx cy W (mem1 x hx) (mem1 y hy) (rd _ _ _ _ _ hMx) (rd _ _ _ _ _ hMy) fun k h1 h2 => hk k h1 (fun e => h2 (by rw [e]; rfl)))).mono ?_
    rintro e w' ⟨c', rfl, h1, h2⟩
    have hm : (onceU Prod.fst xs.zipIdx xs.zipIdx.length).map Prod.fst = onceOf xs := by
      rw [onceU_map Prod.fst xs.zipIdx _ (Nat.le_refl _), List.zipIdx_map_fst, hl2]; rfl
    have hS := S_of_tags h1 (by
      have h5 := (onceU_sub Prod.fst xs.zipIdx xs.zipIdx.length).map Prod.snd
      rw [List.take_length, List.zipIdx_map_snd] at h5
      exact (List.nodup_range' ..).sublist h5)
    rw [hm] at hS
    exact ⟨_, rfl, hS, h2⟩
theorem box_at {w w2 : World} {f : Value} {t B : Nat} (hb : Below B (w.alloc (.cells #[f] t (0, 0))) w2) (hB : w.heap.size < B) : w2.heap[w.heap.size]? = some (.cells #[f] t (0, 0)) := (hb.block _ hB).trans (blk_new w _)
set_option maxHeartbeats 1000000 in
theorem onceFR.calls (v : Value) (xs : List (List V)) (w : World) (base : Nat) (h : Kd.S (Kd.slice 61 k61) 40 w base (fun _ => True) v xs) (hbase : base ≤ w.heap.size) (hl : okR xs = true) :
    Calls Tryz.prog 113 #[v, .func (.func 63) #[] #[]] w fun e w' => ∃ v0_ : Value, e = .returned v0_ ∧ Kd.S (Kd.slice 61 k61) 40 w' base (fun _ => True) v0_ (oneR xs) ∧ (∀ (B : Nat) (w0 : World), B ≤ base → Below B w0 w → B ≤ w.heap.size → Below B w0 w') := by
  have eg : ∀ args w, (callFunc 146 args).run Tryz.prog w = .ok (.enter 146 args) w := enters_of Tryz.func146 (by kernel_rfl) rfl
  have hl' := okR_spec hl
  obtain ⟨A0, c0, rfl⟩ := Kd.S_slice h
  have HC := Aside0.mk (cloneR.calls (Kd.slice 61 k61) rfl (.slice A0 xs.length c0) xs (w.alloc (.cells #[.func (.func 63) #[] #[]] 46 (0, 0))) base _ (Kd.S_alloc h _) (by rw [World.size_alloc]; omega) (by have := hl'.1; omega))
  have HL := Aside0.mk hl
  have HBS := Aside0.mk hbase
  have HEG := Aside0.mk eg
  clear h hl hl' hbase eg
  generalize hn : xs.length = n at HC ⊢
  have HN := Aside0.mk hn
  clear hn
  go_enter Tryz.func113, Tryz.ntmps113
  go_wp2_with (first
    | (go_at_call 144; refine HC.out.mono ?_; rintro e w2 ⟨v2, rfl, hv, hb2⟩; have hbx := box_at hb2 (by rw [World.size_alloc]; omega); have hbc := blk_cell hbx 0; have HBX := Aside0.mk hbx; have HB2 := Aside0.mk (below_then (below_alloc (Below.refl _ _) _) (by rw [World.size_alloc]; omega) hb2); have HV := Aside0.mk hv; clear hv hb2 hbx)
    | (go_at_call 60; refine (sortR_can _ _ _ _ _ HV.out HL.out).mono ?_; rintro e w3 ⟨rfl, hv3, hg3, hb3⟩; have HV3 := Aside0.mk hv3; have HB3 := Aside0.mk hb3; have HG3 := Aside0.mk hg3.size; have HX3 := Aside0.mk (hg3.block w.heap.size (blk_lt HBX.out) (Kd.S_ne HV.out HBX.out (by decide)) |>.trans HBX.out); clear hv3 hb3 hg3 hbc)
    | (go_at_call 145; refine (compRany.calls 146 #[.pointer (some ⟨w.heap.size, 0, none⟩)] HEG.out _ _ _ _ _ HV3.out (by have := (okR_spec HL.out).1; have h9 := sortBy_length cfR xs; unfold canR; omega) (fun x y cx cy W hx hy hMx hMy hk => by
        obtain ⟨A0, c0, rfl, hC0⟩ := hMx
        obtain ⟨A1, c1, rfl, hC1⟩ := hMy
        have lx := (okR_spec HL.out).2 x (sortBy_mem.1 hx)
        have ly := (okR_spec HL.out).2 y (sortBy_mem.1 hy)
        have hcell : W.heap[w.heap.size]? = _ := (hk w.heap.size (blk_lt HX3.out) (Kd.S_ne HV3.out HX3.out (by decide))).trans HX3.out
        exact onceEqR.calls w.heap.size x y A0 A1 c0 c1 W (blk_cell hcell 0) hC0 hC1 (by omega) (by omega))).mono ?_; rintro e w5 ⟨v5, rfl, hv5, hb5⟩; have HV5 := Aside0.mk hv5; have HB5 := Aside0.mk hb5; clear hv5 hb5))
  go_ret
  refine ⟨_, rfl, HV5.out, fun B w0 hB hbl hs => ?_⟩
  have h2 : Below B w0 w2 := below_then hbl hs HB2.out
  have s2 : B ≤ w2.heap.size := Nat.le_trans hs HB2.out.size
  have h3 := HB3.out B w0 hB h2 s2
  exact HB5.out B w0 hB h3 (Nat.le_trans s2 HG3.out)
end
def rows_Once.f (l0 : List (List V)) : Option (List (List V)) := if okR l0 = true then some (oneR l0) else none
set_option maxHeartbeats 1000000 in
theorem rows_Once.calls (A0 : Option Addr) (c0 : Nat) (l0 : List (List V)) (r : List (List V)) (w : World) (hr0 : Kd.C (Kd.slice 61 k61) w A0 l0.length l0) (hc0 : l0.length ≤ c0) (h : rows_Once.f l0 = some r) :
    Calls Tryz.prog 74 #[.slice A0 l0.length c0] w fun e w' => ∃ v0_ : Value, e = .returned (v0_) ∧ Kd.S (Kd.slice 61 k61) 40 w' w.heap.size (fun _ => True) v0_ r ∧ Below w.heap.size w w' := by
  unfold rows_Once.f at h
  by_cases hs : okR l0 = true
  case neg => rw [if_neg hs] at h; cases h
  rw [if_pos hs] at h
  obtain rfl := Option.some.inj h
  have HC := Aside0.mk (rows_Copy_s.calls A0 c0 l0 l0 w hr0 hc0 (by unfold rows_Copy_s.f; rw [if_pos hs]))
  have HS := Aside0.mk hs
  clear hr0 hc0 hs h
  generalize l0.length = n at HC ⊢
  go_enter Tryz.func74, Tryz.ntmps74
  go_wp2_with (first
    | (go_at_call 59; refine HC.out.mono ?_; rintro e w1 ⟨v1, rfl, hv1, hb1⟩; have HV1 := Aside0.mk hv1; have HB1 := Aside0.mk hb1; clear hv1 hb1)
    | (go_at_call 113; refine (onceFR.calls _ _ _ _ HV1.out HB1.out.size HS.out).mono ?_; rintro e w2 ⟨v2, rfl, hv2, hb2⟩; have HV2 := Aside0.mk hv2; have HB2 := Aside0.mk (hb2 w.heap.size w (Nat.le_refl _) HB1.out HB1.out.size); clear hv2 hb2))
  go_ret
  exact ⟨_, rfl, HV2.out, HB2.out⟩
/-! ### rows_taken: function 91 -/
section
theorem heapV : Kd.Heap k61 := Kd.heap_iso _ (Kd.heap_pair (Kd.heap_int _) (Kd.heap_pair (Kd.heap_int _) Kd.heap_string))
theorem takenAll.calls (A0 : Option Addr) (n c0 : Nat) (w : World) : Calls Tryz.prog 91 #[.slice A0 n c0, .bool true] w fun e w' => e = .returned (.slice A0 n c0) ∧ w' = w := by
  go_enter Tryz.func91, Tryz.ntmps91
  go_wp2
  go_ret
  exact ⟨rfl, rfl⟩
theorem takenOnce.calls (A0 : Option Addr) (c0 : Nat) (l0 : List (List V)) (w : World) (hr0 : Kd.C (Kd.slice 61 k61) w A0 l0.length l0) (hc0 : l0.length ≤ c0) (hok : okR l0 = true) :
    Calls Tryz.prog 91 #[.slice A0 l0.length c0, .bool false] w fun e w' => ∃ v0_ : Value, e = .returned v0_ ∧ Kd.S (Kd.slice 61 k61) 40 w' w.heap.size (fun _ => True) v0_ (oneR l0) ∧ Below w.heap.size w w' := by
  have HC := Aside0.mk (rows_Once.calls A0 c0 l0 (oneR l0) w hr0 hc0 (by unfold rows_Once.f; rw [if_pos hok]))
  clear hr0 hc0 hok
  generalize l0.length = n at HC ⊢
  go_enter Tryz.func91, Tryz.ntmps91
  go_wp2_with (go_at_call 74; refine HC.out.mono ?_; rintro e w1 ⟨v1, rfl, hv1, hb1⟩; have HV1 := Aside0.mk hv1; have HB1 := Aside0.mk hb1; clear hv1 hb1)
  go_ret
  exact ⟨_, rfl, HV1.out, HB1.out⟩
/-- what is taken, each or all: it is read, and no part of it is the map's block -/
theorem taken.calls (A0 : Option Addr) (c0 : Nat) (l0 : List (List V)) (all : Bool) (w w1 : World) (hr0 : Kd.C (Kd.slice 61 k61) w A0 l0.length l0) (hc0 : l0.length ≤ c0) (hok : okR l0 = true) (hb : Below w.heap.size w w1) (hlt : w.heap.size < w1.heap.size) :
    Calls Tryz.prog 91 #[.slice A0 l0.length c0, .bool all] w1 fun e w' => ∃ A c, e = .returned (.slice A (if all = true then l0 else oneR l0).length c) ∧ Kd.F (Kd.slice 61 k61) w' (fun k => k ≠ w.heap.size) A (if all = true then l0 else oneR l0).length (if all = true then l0 else oneR l0) ∧ Below w1.heap.size w1 w' := by
  cases all with
  | true =>
    refine (takenAll.calls A0 l0.length c0 w1).mono ?_
    rintro e w' ⟨rfl, rfl⟩
    refine ⟨A0, c0, rfl, ?_, Below.refl _ _⟩
    exact Kd.F_mono (Kd.F_below (Kd.C_F (Kd.heap_slice _ heapV) hr0) hb) fun k hk => Nat.ne_of_lt hk
  | false =>
    refine (takenOnce.calls A0 c0 l0 w1 (Kd.C_below hr0 hb) hc0 hok).mono ?_
    rintro e w' ⟨v, rfl, hv, hb'⟩
    obtain ⟨A, c, rfl⟩ := Kd.S_slice hv
    refine ⟨A, c, rfl, ?_, hb'⟩
    exact Kd.F_mono (Kd.S_F (Kd.S_bound hv)) fun k hk => by have := hk.2.1; omega
end
/-! ### rows_In: function 53 -/
section
variable {ops : Array Oper} {rest : List Oper} {o : Oper} {a : Act} {Q : Exit → Act → World → Prop}
/-- a row of one's own appended to rows that lie apart from it -/
theorem append_row {W : World} {base : Nat} (hgd : o.guard = none) (s x : Operand) (ho : o.op = .call { callee := .builtin .append, args := #[s, x], argTypes := #[22, 22] })
    (v : Value) (A : Option Addr) (n c : Nat) (out : List (List V)) (r : List V) (hs : a.eval s = v) (hx : a.eval x = .slice (some ⟨W.heap.size, 0, none⟩) 1 1)
    (HO : Kd.S (Kd.slice 61 k61) 40 W base (fun k => True ∧ some k ≠ (Value.slice A n c).ownBlock) v out) (HU : Kd.R k61 61 W base (fun _ => True) (.slice A n c) r) (hbase : base ≤ W.heap.size) (hl : out.length ≤ 5000000)
    (h : ∀ v1 w1, Kd.S (Kd.slice 61 k61) 40 w1 base (fun _ => True) v1 (out ++ [r]) → Below base W w1 → W.grownBy w1 v.ownBlock → wpList Tryz.prog ops Q rest (a.put o.dst v1) w1) :
    wpList Tryz.prog ops Q (o :: rest) a (W.alloc (.cells #[.slice A n c] 40)) := by
  refine Kd.S_append (Kd.slice 61 k61) (w0 := W) base hgd s x 22 40 (.slice none 0 0) 24 ho Tryz.underlying22 info40 rfl (by decide) (by omega) v out r [.slice A n c] (fun _ => True) (fun k => some k = (Value.slice A n c).ownBlock) hs hx ?_ ?_ (fun _ _ => trivial) ?_ (Below.refl _ _) hbase (by omega) (fun v1 w1 h1 h2 h3 _ => h v1 w1 h1 h2 h3)
  · exact Kd.M_row (Kd.R_tight rfl HU)
  · intro k hk
    refine ⟨trivial, fun e => ?_⟩
    obtain ⟨c1, h1⟩ := Kd.S_typed HO k e.symm
    obtain ⟨c2, h2⟩ := Kd.R_typed HU k hk.symm
    rw [h1] at h2
    injection h2 with h2
    injection h2 with _ h2
    exact absurd h2 (by decide)
  · exact Kd.S_mono HO fun k hk => ⟨trivial, fun e => hk.2 e⟩
theorem S_off {α : Type} {d : Kd α} {e base b : Nat} {w w1 : World} {ok : Nat → Prop} {v : Value} {xs : List α} (h : Kd.S d e w base ok v xs) (hg : w.grownBy w1 (some b)) (hb : b < base) : Kd.S d e w1 base ok v xs :=
  Kd.S_mono (Kd.S_step (Kd.S_bound h) fun k hk hlt => hg.block k hlt fun q => by injection q with q; have := hk.2.1; omega) fun _ hk => hk.1
/-- all but block b is as it was -/
def KeptB (b : Nat) (w w1 : World) : Prop := w.heap.size ≤ w1.heap.size ∧ ∀ k, k < w.heap.size → k ≠ b → w1.heap[k]? = w.heap[k]?
theorem KeptB.refl (b : Nat) (w : World) : KeptB b w w := ⟨Nat.le_refl _, fun _ _ _ => rfl⟩
theorem KeptB.below {b : Nat} {w w1 w2 : World} (h : KeptB b w w1) (k : Below w.heap.size w1 w2) : KeptB b w w2 := ⟨Nat.le_trans h.1 k.size, fun i hi hn => (k.block i hi).trans (h.2 i hi hn)⟩
theorem KeptB.off {b : Nat} {w w1 w2 : World} (h : KeptB b w w1) (k : w1.grownBy w2 (some b)) : KeptB b w w2 := ⟨Nat.le_trans h.1 k.size, fun i hi hn => (k.block i (Nat.lt_of_lt_of_le hi h.1) (fun q => hn (by injection q))).trans (h.2 i hi hn)⟩
set_option maxRecDepth 100000 in
set_option maxHeartbeats 4000000 in
theorem inFR.calls (A0 A1 : Option Addr) (c0 c1 : Nat) (l0 l1 : List (List V)) (all : Bool) (w : World) (hL_ : Laid w) (hr0 : Kd.C (Kd.slice 61 k61) w A0 l0.length l0) (hc0 : l0.length ≤ c0) (hr1 : Kd.C (Kd.slice 61 k61) w A1 l1.length l1) (hok0 : okRR l0 = true) (hok1 : okRR l1 = true) :
    Calls Tryz.prog 53 #[.slice A0 l0.length c0, .slice A1 l1.length c1, .bool all] w fun e w' => ∃ v0_ : Value, e = .returned v0_ ∧ Kd.S (Kd.slice 61 k61) 40 w' w.heap.size (fun _ => True) v0_ (canR (takeIn (cnt l1) (if all = true then l0 else oneR l0))) ∧ Below w.heap.size w w' := by
  have HLD := Aside0.mk hL_
  have HCN := Aside0.mk (countsR.calls A1 c1 l1 w hL_ hr1 hok1)
  have HTK := Aside0.mk (fun w1 hb hlt => taken.calls A0 c0 l0 all w w1 hr0 hc0 (okRR_okR hok0) hb hlt)
  obtain ⟨t, ht⟩ : ∃ t, t = if all = true then l0 else oneR l0 := ⟨_, rfl⟩
  have htok : (t.length ≤ 1000000 ∧ ∀ r ∈ t, okRow r = true) := by
    have h8 := okRR_spec hok0
    rw [ht]
    cases all with
    | true => exact h8
    | false =>
      have h9 := oneR_spec l0
      refine ⟨?_, fun r hr => h8.2 r ((h9.2 r).1 hr)⟩
      have := oneR_len l0
      show (oneR l0).length ≤ 1000000
      omega
  have HE : Aside0 (inN (cntN l1) t = takeIn (cnt l1) t) := ⟨inN_eq t _ _ (fun x hx => (okRow_spec (htok.2 x hx)).2) fun x hx => cntN_eq (okRR_vals hok1) hx⟩
  have HIR : Aside0 (InR (cntN l1)) := ⟨fun s => by have := cntN_le l1 s; have := (okRR_spec hok1).1; omega⟩
  rw [← ht] at HTK ⊢
  rw [← HE.out]
  have HT := Aside0.mk htok
  have HN1 : Aside0 (l1.length ≤ 1000000) := ⟨(okRR_spec hok1).1⟩
  clear hL_ hr0 hr1 hc0 hok0 hok1 ht htok HE
  generalize l0.length = n0 at HTK ⊢
  generalize l1.length = n1 at HCN HN1 ⊢
  obtain ⟨n, hn⟩ : ∃ n, n = t.length := ⟨_, rfl⟩
  rw [← hn] at HTK
  have hle : n ≤ 1000000 := by have := HT.out.1; omega
  have HN := Aside0.mk hn
  clear hn
  go_enter Tryz.func53, Tryz.ntmps53
  go_wp2_with (first
    | (go_at_call 90; refine HCN.out.mono ?_; rintro e w1 ⟨rfl, hm1, hb1⟩; have HM1 := Aside0.mk hm1; have HB1 := Aside0.mk hb1; clear hm1 hb1)
    | (go_at_call 91; refine (HTK.out _ HB1.out (mapIs_lt HM1.out)).mono ?_; rintro e w2 ⟨At, ct, rfl, hf2, hb2⟩; have HF2 := Aside0.mk hf2; have HM2 := Aside0.mk (mapIs_below HM1.out hb2); have HB2 := Aside0.mk (below_step HB1.out hb2); clear hf2 hb2))
  have HLT : Aside0 (w.heap.size < w2.heap.size) := ⟨mapIs_lt HM2.out⟩
  clear HM1 HB1 HTK HCN
  go_loopg [8, 10, 11, 18] n (fun gg s8 _ _ s18 wr => ∃ (kk : Nat) (out : List (List V)) (left : List UInt8 → Int), kk ≤ n ∧ n - kk ≤ gg ∧ s18 = .int .i64 kk ∧ Aside0 (Below w.heap.size w wr) ∧ Aside0 (KeptB w.heap.size w2 wr) ∧ Aside0 (MapIs wr w.heap.size (n1 + kk) left) ∧ Aside0 (InR left) ∧ Aside0 (Kd.S (Kd.slice 61 k61) 40 wr w2.heap.size (fun _ => True) s8 out) ∧ Aside0 (inN (cntN l1) t = out ++ inN left (t.drop kk)))
  case atStart => exact ⟨0, [], cntN l1, Nat.zero_le _, by omega, rfl, HB2, ⟨KeptB.refl _ _⟩, HM2, HIR, ⟨Kd.S_nil _ _ _ _ _⟩, ⟨rfl⟩⟩
  case round =>
    clear HB2 HM2 HIR
    obtain ⟨kk, out, left, hkk, hg, rfl, HB, HK, HM, HIR, HO, HI⟩ := hrel
    obtain ⟨Ao, co, eo⟩ := Kd.S_slice HO.out
    subst eo
    have HOL : Aside0 (out.length ≤ 1000000) := ⟨by
      have h8 := inN_len t (cntN l1)
      rw [HI.out, List.length_append] at h8
      have := HT.out.1
      omega⟩
    obtain ⟨m, hm⟩ : ∃ m, m = out.length := ⟨_, rfl⟩
    by_cases hlt : kk < n
    · have hltz : (kk : Int) < (n : Int) := by omega
      have hlt' : kk < t.length := by have := HN.out; omega
      have hF := Kd.F_step HF2.out fun k hk hl => HK.out.2 k hl hk
      obtain ⟨ad, cc, e1, _, hFK, hcc, _⟩ := Kd.F_get hF [] (kk : Int) (by omega) (by omega)
      cases e1
      obtain ⟨Ar, cr, rfl, hle1, hF1⟩ := Kd.FK_slice_open hFK
      have eg : t.getD (kk : Int).toNat [] = t[kk] := by rw [Int.toNat_natCast, List.getD_eq_getElem?_getD, List.getElem?_eq_getElem hlt']; rfl
      have hx0 := hcc 0 _ rfl
      rw [show (kk : Int).toNat * (Kd.slice 61 k61).sz + 0 = kk from by rw [Int.toNat_natCast]; exact Nat.mul_one kk] at hx0
      rw [eg] at hx0 hle1 hF1
      have hC1 := Kd.F_now hF1
      have hrow := HT.out.2 t[kk] (List.getElem_mem hlt')
      have htd : t.drop kk = t[kk] :: t.drop (kk + 1) := List.drop_eq_getElem_cons hlt'
      have hcall := rows_Name.calls Ar cr t[kk] (ofL (nameL t[kk])) wr (HLD.out.below HB.out) hC1 hle1 (by unfold rows_Name.f; rw [if_pos hrow])
      have hns : (ofL (nameL t[kk])).size ≤ 403000 := by
        rw [ofL_size]
        have h8 := okRow_spec hrow
        have := nameL_len _ h8.2
        have := Nat.mul_le_mul_right 403 h8.1
        omega
      have hrl : t[kk].length ≤ 1000 := (okRow_spec hrow).1
      clear hcc hFK hF eg
      generalize t[kk] = y at hx0 hrow htd hcall hns hC1 hle1 hrl hF1
      obtain ⟨c, hc⟩ : ∃ c, c = left (nameL y) := ⟨_, rfl⟩
      have hcb := HIR.out (nameL y)
      rw [← hc] at hcb
      have q0 : 0 ≤ c := hcb.1
      have q1 : c ≤ 1000000 := hcb.2
      have HC := Aside0.mk hcall
      have HCE := Aside0.mk hc
      have HNS := Aside0.mk hns
      have HSE : Aside0 ((ofL (nameL y)).data.toList = nameL y) := ⟨rfl⟩
      have HTD := Aside0.mk htd
      have HF1 := Aside0.mk hF1
      have HRL := Aside0.mk hrl
      clear hcall htd hc hns hcb hrow hlt' hC1 hle1 hrl hF1
      generalize ofL (nameL y) = s at HC HNS HSE
      generalize hyl : y.length = ylen at hx0 HC HF1
      have HYL := Aside0.mk hyl
      clear hyl
      have HML := Aside0.mk hm
      rw [← hm] at HO ⊢
      clear hm
      by_cases hpos : 0 < c
      · go_wp2_with (first
          | (go_at_call 92; refine HC.out.mono ?_; rintro e w3 ⟨rfl, hb3⟩; have HB3 := Aside0.mk (below_step HB.out hb3); have HM3 := Aside0.mk (mapIs_below HM.out hb3); have HD3 := Aside0.mk hb3; clear hb3)
          | (at_lookup; refine mapIs_lookup rfl _ _ rfl _ _ _ rfl HM3.out s (by have := HNS.out; simp only [maxLen]; omega) rfl c (by rw [HSE.out]; exact HCE.out.symm) ?_)
          | (at_mapUpdate; refine mapIs_update rfl _ _ _ rfl _ _ _ rfl HM3.out (by have := HN1.out; simp only [maxLen]; omega) s (by have := HNS.out; simp only [maxLen]; omega) rfl (c - 1) rfl (wfI (by omega) (by omega)) ?_; intro w4 hm4 hg4; have HM4 := Aside0.mk hm4; have HG4 := Aside0.mk hg4; clear hm4 hg4))
        have HB4 := Aside0.mk (HB3.out.grown HG4.out HB3.out.size (by intro k hk; injection hk with hk; omega))
        have HK3 := Aside0.mk (HK.out.below (HD3.out.mono HK.out.1))
        have HK4 := Aside0.mk (HK3.out.off HG4.out)
        have HO4 := Aside0.mk (S_off (Kd.S_below HO.out HD3.out) HG4.out HLT.out)
        have HF4 : Aside0 (Kd.F k61 w4 (fun k => k ≠ w.heap.size) Ar y.length y) := ⟨by
          rw [HYL.out]
          exact Kd.F_step (Kd.F_below HF1.out HD3.out) fun k hk hl => HG4.out.block k hl fun q => hk (by injection q)⟩
        go_wp2_with (first
          | (go_at_call 93; rw [← HYL.out]; refine (cloneV.calls Ar cr y _ (Kd.F_now HF4.out) (by have := HRL.out; omega)).mono ?_; rintro e w5 ⟨v5, rfl, hv5, hb5⟩; obtain ⟨A5, c5, rfl⟩ := Kd.R_slice hv5; have HO5 := Aside0.mk (Kd.S_elder' HO4.out (Kd.R_base hv5) hb5); have HU5 := Aside0.mk (Kd.R_lower hv5 HK4.out.1); have HK5 := Aside0.mk (HK4.out.below (hb5.mono HK4.out.1)); have HM5 := Aside0.mk (mapIs_below HM4.out hb5); have HB5 := Aside0.mk (below_step HB4.out hb5); clear hv5 hb5)
          | (at_builtin; refine append_row rfl _ _ rfl _ _ _ _ out y rfl rfl HO5.out HU5.out HK5.out.1 (by have := HOL.out; omega) ?_; intro v6 w6 ho6 hb6 hg6; have HO6 := Aside0.mk ho6; have HK6 := Aside0.mk (HK5.out.below hb6); have HM6 := Aside0.mk (mapIs_same HM5.out (hb6.block _ HLT.out)); have HB6 := Aside0.mk (HB5.out.trans (hb6.mono (Nat.le_of_lt HLT.out))); clear ho6 hb6 hg6))
        go_roundg (n - (kk + 1))
        case measure => omega
        case rel =>
          refine ⟨kk + 1, out ++ [y], putN left s.data.toList (c - 1), by omega, by omega, by go_num, HB6, HK6, HM6, ⟨HIR.out.put (by omega) (by omega)⟩, HO6, ⟨?_⟩⟩
          rw [HI.out, HTD.out, inN, if_pos (by rw [← HCE.out]; exact hpos), List.append_assoc, HSE.out, ← HCE.out]
          rfl
      · go_wp2_with (first
          | (go_at_call 92; refine HC.out.mono ?_; rintro e w3 ⟨rfl, hb3⟩; have HB3 := Aside0.mk (below_step HB.out hb3); have HM3 := Aside0.mk (mapIs_below HM.out hb3); have HD3 := Aside0.mk hb3; clear hb3)
          | (at_lookup; refine mapIs_lookup rfl _ _ rfl _ _ _ rfl HM3.out s (by have := HNS.out; simp only [maxLen]; omega) rfl c (by rw [HSE.out]; exact HCE.out.symm) ?_))
        go_roundg (n - (kk + 1))
        case measure => omega
        case rel =>
          refine ⟨kk + 1, out, left, by omega, by omega, by go_num, HB3, ⟨HK.out.below (HD3.out.mono HK.out.1)⟩, ⟨by have h8 := HM3.out; exact mapIs_mono h8 (by omega)⟩, HIR, ⟨by have h8 := Kd.S_below HO.out HD3.out; exact h8⟩, ⟨?_⟩⟩
          rw [HI.out, HTD.out, inN, if_neg (by rw [← HCE.out]; omega)]
    · have hltz : decide (kk < n) = false := by simpa using hlt
      have HOE : Aside0 (inN (cntN l1) t = out) := ⟨by
        rw [HI.out, List.drop_of_length_le (by have := HN.out; omega)]
        simp [inN]⟩
      have HOK : Aside0 (okR out = true) := ⟨okR_mk (by have := HOL.out; omega) fun r hr => by
        rw [← HOE.out] at hr
        exact (okRow_spec (HT.out.2 r (inN_mem t _ r hr))).1⟩
      rw [← hm] at HO ⊢
      clear hlt hm
      go_wp2_with (go_at_call 60; refine (sortR_can _ _ _ _ _ HO.out HOK.out).mono ?_; rintro e w3 ⟨rfl, hv3, _, hb3⟩; have HV3 := Aside0.mk hv3; have HB3 := Aside0.mk (hb3 w.heap.size w (Nat.le_of_lt HLT.out) HB.out HB.out.size); clear hv3 hb3)
      go_ret
      refine ⟨_, rfl, ?_, HB3.out⟩
      rw [HOE.out]
      exact Kd.S_lower HV3.out (Nat.le_of_lt HLT.out)
end
/-! ### rows_Both: function 15 -/
section
theorem C_lit {α : Type} {d : Kd α} (hsz : d.sz = 1) {W : World} {g e : Nat} {cs : Array Value} {xs : List α} (hb : W.heap[g]? = some (.cells cs e (0, 0))) (h : Reps (d.K W) 1 xs cs.toList) (hl : xs.length ≤ 1000) : Kd.C d W (some ⟨g, 0, none⟩) xs.length xs :=
  ⟨rfl, by omega, fun _ => ⟨_, rfl, fun j p hj => by
    have hjl := (List.getElem?_eq_some_iff.1 hj).1
    have h1 := h.1
    have h2 := h.2 j p hj
    refine ⟨(cs.toList.drop (j * 1)).take 1, ?_, h2, fun i u hu => ?_⟩
    · rw [List.length_take, List.length_drop, hsz]; omega
    · rw [hsz, add_at, Nat.zero_add, blk_cell hb]
      rw [List.getElem?_take] at hu
      by_cases hi : i < 1
      · rw [if_pos hi, List.getElem?_drop, Array.getElem?_toList] at hu
        exact hu
      · rw [if_neg hi] at hu; cases hu⟩⟩
theorem K_row {W : World} {A : Option Addr} {c : Nat} {x : List (List V)} (h : Kd.C (Kd.slice 61 k61) W A x.length x) (hc : x.length ≤ c) : (Kd.slice 40 (Kd.slice 61 k61)).K W x [.slice A x.length c] := ⟨A, c, rfl, hc, h⟩
theorem small_two (A0 A1 : Option Addr) (c0 c1 : Nat) (l0 l1 : List (List V)) (w W : World) (hr0 : Kd.C (Kd.slice 61 k61) w A0 l0.length l0) (hc0 : l0.length ≤ c0) (hr1 : Kd.C (Kd.slice 61 k61) w A1 l1.length l1) (hc1 : l1.length ≤ c1) (hb : Below w.heap.size w W) :
    Calls Tryz.prog 52 #[.slice (some ⟨W.heap.size, 0, none⟩) 2 2] (W.alloc (.cells #[.slice A0 l0.length c0, .slice A1 l1.length c1] 22)) fun e w' => e = .returned (.int .i64 (smallE [l0, l1])) ∧ Below w.heap.size w w' := by
  have hb2 : Below w.heap.size w (W.alloc (.cells #[.slice A0 l0.length c0, .slice A1 l1.length c1] 22)) := below_alloc hb _
  have hC : Kd.C (Kd.slice 40 (Kd.slice 61 k61)) (W.alloc (.cells #[.slice A0 l0.length c0, .slice A1 l1.length c1] 22)) (some ⟨W.heap.size, 0, none⟩) 2 [l0, l1] :=
    C_lit rfl (blk_new W _) (Reps.one (K_row (Kd.C_below hr0 hb2) hc0) (Reps.one (K_row (Kd.C_below hr1 hb2) hc1) (Reps.none _ _))) (show 2 ≤ 1000 by decide)
  exact (rows_small.calls (some ⟨W.heap.size, 0, none⟩) 2 [l0, l1] _ _ hC (Nat.le_refl _) rfl).mono fun _ _ ⟨he, hb3⟩ => ⟨he, below_step hb2 hb3⟩
theorem small_one (A0 : Option Addr) (c0 : Nat) (l0 : List (List V)) (w W : World) (hr0 : Kd.C (Kd.slice 61 k61) w A0 l0.length l0) (hc0 : l0.length ≤ c0) (hb : Below w.heap.size w W) :
    Calls Tryz.prog 52 #[.slice (some ⟨W.heap.size, 0, none⟩) 1 1] (W.alloc (.cells #[.slice A0 l0.length c0] 22)) fun e w' => e = .returned (.int .i64 (smallE [l0])) ∧ Below w.heap.size w w' := by
  have hb2 : Below w.heap.size w (W.alloc (.cells #[.slice A0 l0.length c0] 22)) := below_alloc hb _
  have hC : Kd.C (Kd.slice 40 (Kd.slice 61 k61)) (W.alloc (.cells #[.slice A0 l0.length c0] 22)) (some ⟨W.heap.size, 0, none⟩) 1 [l0] :=
    C_lit rfl (blk_new W _) (Reps.one (K_row (Kd.C_below hr0 hb2) hc0) (Reps.none _ _)) (show 1 ≤ 1000 by decide)
  exact (rows_small.calls (some ⟨W.heap.size, 0, none⟩) 1 [l0] _ _ hC (Nat.le_refl _) rfl).mono fun _ _ ⟨he, hb3⟩ => ⟨he, below_step hb2 hb3⟩
end
def rows_Both.f (l0 l1 : List (List V)) (all : Bool) : Option (List (List V) × Int) := if smallE [l0, l1] = 0 then (if okRR l0 = true ∧ okRR l1 = true then some (canR (takeIn (cnt l1) (if all = true then l0 else oneR l0)), 0) else none) else some ([], smallE [l0, l1])
set_option maxHeartbeats 2000000 in
theorem rows_Both.calls (A0 : Option Addr) (c0 : Nat) (l0 : List (List V)) (A1 : Option Addr) (c1 : Nat) (l1 : List (List V)) (all : Bool) (r1 : List (List V)) (r2 : Int) (w : World) (hr0 : Kd.C (Kd.slice 61 k61) w A0 l0.length l0) (hc0 : l0.length ≤ c0) (hr1 : Kd.C (Kd.slice 61 k61) w A1 l1.length l1) (hc1 : l1.length ≤ c1) (hL_ : Laid w) (h : rows_Both.f l0 l1 all = some (r1, r2)) :
  Calls Tryz.prog 15 #[.slice A0 l0.length c0, .slice A1 l1.length c1, .bool all] w fun e w' => ∃ v0_ : Value, e = .returned (.tuple #[v0_, .int .i64 r2]) ∧ Kd.S (Kd.slice 61 k61) 40 w' w.heap.size (fun _ => True) v0_ r1 ∧ Below w.heap.size w w' := by
 unfold rows_Both.f at h
 have HS := Aside0.mk (fun W hb => small_two A0 A1 c0 c1 l0 l1 w W hr0 hc0 hr1 hc1 hb)
 by_cases hs : smallE [l0, l1] = 0
 ·rw [if_pos hs] at h
  by_cases hk : okRR l0 = true ∧ okRR l1 = true
  case neg => rw [if_neg hk] at h; cases h
  rw [if_pos hk] at h
  simp only [Option.some.injEq, Prod.mk.injEq] at h
  obtain ⟨rfl, rfl⟩ := h
  rw [hs] at HS
  have HI := Aside0.mk (fun W (hb : Below w.heap.size w W) => inFR.calls A0 A1 c0 c1 l0 l1 all W (hL_.below hb) (Kd.C_below hr0 hb) hc0 (Kd.C_below hr1 hb) hk.1 hk.2)
  clear hL_ hr0 hc0 hr1 hc1 hs hk
  generalize canR (takeIn (cnt l1) (if all = true then l0 else oneR l0)) = res at HI ⊢
  generalize l0.length = n0 at HS HI ⊢
  generalize l1.length = n1 at HS HI ⊢
  go_enter Tryz.func15, Tryz.ntmps15
  go_wp2_with (first
   | (go_at_call 52; refine (HS.out _ (Below.refl _ _)).mono ?_; rintro e w1 ⟨rfl, hb1⟩; have HB1 := Aside0.mk hb1; clear hb1)
   | (go_at_call 53; refine (HI.out _ HB1.out).mono ?_; rintro e w2 ⟨v2, rfl, hv2, hb2⟩; have HV2 := Aside0.mk (Kd.S_lower hv2 HB1.out.size); have HB2 := Aside0.mk (below_step HB1.out hb2); clear hv2 hb2))
  go_ret2
  exact ⟨_, rfl, HV2.out, HB2.out⟩
 ·rw [if_neg hs] at h
  simp only [Option.some.injEq, Prod.mk.injEq] at h
  obtain ⟨rfl, rfl⟩ := h
  have hs2 : (smallE [l0, l1] != 0) = true := by simpa using hs
  clear hL_ hr0 hc0 hr1 hc1 hs
  generalize smallE [l0, l1] = x at HS hs2 ⊢
  generalize l0.length = n0 at HS ⊢
  generalize l1.length = n1 at HS ⊢
  go_enter Tryz.func15, Tryz.ntmps15
  go_wp2_with (go_at_call 52; refine (HS.out _ (Below.refl _ _)).mono ?_; rintro e w1 ⟨rfl, hb1⟩)
  go_ret2
  exact ⟨_, rfl, Kd.S_nil _ _ _ _ _, hb1⟩
end Go.Proofs.YtmhobbdedmjmnaaGreatDoor.Q
end
