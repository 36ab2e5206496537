/- Lemmas for the claim: contracts of functions and facts about what they compute, part 5 (texts put together, and cut down to what is used, by a program of ours). -/
import Derived.Test.YtmhobbdedmjmnaaGreatDoorMOwn3
section
/- Each function reached is shown to return what the plain function beside it computes, wherever that is defined (written by a program of ours for this seat). -/
namespace Go.Proofs.YtmhobbdedmjmnaaGreatDoor.Q
open Go.RowKit Go.Proofs.YtmhobbdedmjmnaaGreatDoorW.PrintWords Go.Proofs.YtmhobbdedmjmnaaGreatDoorW.PrintLast Go.Proofs.YtmhobbdedmjmnaaGreatDoorW.PrintMore
attribute [local go_sem] max2_int min2_int max_two min_two max_three min_three max_four min_four   -- for this text's walks alone
set_option linter.unusedVariables false
set_option linter.unusedSimpArgs false
def tacticianref01_Int.f (a0 : Int) : Option (Int × Int × ByteArray) := some (1, a0, (⟨#[]⟩ : ByteArray))
set_option maxHeartbeats 8000000 in
set_option maxRecDepth 100000 in
theorem tacticianref01_Int.calls (a0 : Int) (r1 : Int) (r2 : Int) (r3 : ByteArray) (w : World) (h : tacticianref01_Int.f a0 = some (r1, r2, r3)) :
    Calls Tryz.prog 41 #[.int .i64 a0] w fun e w' => e = .returned (.agg #[.int .i64 r1, .int .i64 r2, .string r3]) ∧ Below w.heap.size w w' := by
  have hu61 := Tryz.underlying61
  have HB := Aside0.mk (Below.refl w.heap.size w)
  have H : (some (1, a0, (⟨#[]⟩ : ByteArray))) = some (r1, r2, r3) := h
  clear h
  simp only [Option.some.injEq, Prod.mk.injEq] at H
  obtain ⟨rfl, rfl, rfl⟩ := H
  go_enter Tryz.func41, Tryz.ntmps41
  go_wp2_with (first | ((with_reducible refine gate_dst (N := 2) rfl ?_); refine box_event ?hg (N := 2) ?hd (cs := #[.int .i64 0, .int .i64 0, .string (⟨#[]⟩ : ByteArray)]) (t := 61) ?hr ?_; (case hd => rfl); (case hg => rfl); (case hr => first | (go_simp; done) | (go_simp; rfl)); intro gb149 hg w2 hbox hb; have n0_ := Aside0.mk (below_step (by repeat (first | (with_reducible first | exact HB.out | apply yA | apply yN | apply yD) | exact HB.out)) hb); have n1_ := Aside0.mk (hbox); have n2_ := Aside0.mk ((by rw [hg]; exact (below_size (by repeat (first | (with_reducible first | exact HB.out | apply yA | apply yN | apply yD) | exact HB.out))) : w.heap.size ≤ gb149)); have n3_ := Aside0.mk ((by rw [hg]; exact (below_size (by repeat (first | (with_reducible first | exact HB.out | apply yA | apply yN | apply yD) | exact HB.out))) : w.heap.size ≤ gb149)); clear HB; have HB := n0_; have BK149 := n1_; have GW149 := n2_; have GE149 := n3_; clear n0_ n1_ n2_ n3_; clear hb hbox hg; have hcz3_0 : w2.cell? ⟨gb149, 0, none⟩ = some (.int .i64 0) := (blk_cell BK149.out 0).trans rfl; have hcz3_1 : w2.cell? ⟨gb149, 1, none⟩ = some (.int .i64 0) := (blk_cell BK149.out 1).trans rfl; have hcz3_2 : w2.cell? ⟨gb149, 2, none⟩ = some (.string (⟨#[]⟩ : ByteArray)) := (blk_cell BK149.out 2).trans rfl; have hfz3_0 := blk_frozen BK149.out 0; have hfz3_1 := blk_frozen BK149.out 1; have hfz3_2 := blk_frozen BK149.out 2))
  refine bodyPost_ret (results_cell_row rfl _ _ gb149 61 #[.int .i64 1, .int .i64 a0, .string (⟨#[]⟩ : ByteArray)] (0, 0) _ rfl (by (with_reducible repeat (first | refine zN ?_ _ | refine zD ?_ | refine zA ?_ _)); refine blk_put (cs := #[.int .i64 1, .int .i64 a0, .string (⟨#[]⟩ : ByteArray)]) ?_ 2 _ rfl; (with_reducible repeat (first | refine zN ?_ _ | refine zD ?_ | refine zA ?_ _)); refine blk_put (cs := #[.int .i64 1, .int .i64 0, .string (⟨#[]⟩ : ByteArray)]) ?_ 1 _ rfl; (with_reducible repeat (first | refine zN ?_ _ | refine zD ?_ | refine zA ?_ _)); refine blk_put (cs := #[.int .i64 0, .int .i64 0, .string (⟨#[]⟩ : ByteArray)]) ?_ 0 _ rfl; (with_reducible repeat (first | refine zN ?_ _ | refine zD ?_ | refine zA ?_ _)); exact BK149.out) Tryz.underlying61 rfl (by kernel_rfl)) rfl ?_
  exact ⟨by first | rfl | (simp [errW_none, errW_some] <;> rfl) | (simp [*, errW_none, errW_some] <;> rfl), by repeat (first | (with_reducible first | exact HB.out | apply yA | apply yN | apply yD | refine below_set ?_ GE149.out) | exact HB.out)⟩
def tacticianlaw02_row.l0 : Nat → List Int → List (S61) → Int → Option ((List (S61)))
  | 0, _, _, _ => none
  | k + 1, x0, x3, x4 => if x4 < (x0.length : Int) then (if 0 ≤ x4 then ((tacticianref01_Int.f (rd x0 x4)).bind fun bt151 => (if x3.length < 4398046511104 then (tacticianlaw02_row.l0 k x0 (x3 ++ [(⟨bt151.1, bt151.2.1, bt151.2.2⟩ : S61)]) (wrap64 (x4 + 1))) else (none))) else (none)) else (some x3)
def tacticianlaw02_row.f (k : Nat) (l0 : List Int) : Option ((List (S61))) := tacticianlaw02_row.l0 k l0 ([] : List (S61)) 0
set_option maxHeartbeats 8000000 in
set_option maxRecDepth 100000 in
theorem tacticianlaw02_row.calls (k : Nat) (A0 : Option Addr) (c0 : Nat) (l0 : List Int) (r : List (S61)) (w : World) (hr0 : Kd.C (Kd.int .i64) w A0 l0.length l0) (hc0 : l0.length ≤ c0) (h : tacticianlaw02_row.f k l0 = some r) :
    Calls Tryz.prog 57 #[.slice A0 l0.length c0] w fun e w' => ∃ v0_ : Value, e = .returned (v0_) ∧ Kd.R k61 61 w' w.heap.size (fun _ => True) v0_ r ∧ Below w.heap.size w w' := by
  have HR0 := Aside0.mk hr0
  have HC0 := Aside0.mk hc0
  clear hr0 hc0
  have HB := Aside0.mk (Below.refl w.heap.size w)
  have H : (tacticianlaw02_row.l0 k l0 ([] : List (S61)) 0) = some r := h
  clear h
  have H' := Aside0.mk H
  clear H
  go_enter Tryz.func57, Tryz.ntmps57
  go_wp2
  go_loopg [3, 4] k (fun kq v3 v4 w' => ∃ (x3_1 : List (S61)) (x4_1 : Int), v4 = .int .i64 x4_1 ∧ Aside0 (tacticianlaw02_row.l0 kq l0 x3_1 x4_1 = some r) ∧ Aside0 (kq ≤ k) ∧ Aside0 (Kd.R k61 61 w' w.heap.size (fun _ => True) v3 x3_1) ∧ Aside0 (Below w.heap.size w w'))
  case atStart => exact ⟨(([] : List (S61))), (0), (by first | rfl | (simp; done) | (simp [*]; done)), H', ⟨Nat.le_refl _⟩, ⟨by first | exact Kd.R_nil _ _ _ _ _ | exact Kd.N_nil _ _ _ _ _ | exact Kd.V_nil _ _ _ _ _ | exact Kd.Q_nil _ _ _ _ _ | exact Kd.S_nil _ _ _ _ _⟩, ⟨by repeat (first | (with_reducible first | exact HB.out | apply yA | apply yN | apply yD) | exact HB.out)⟩⟩
  case round =>
    clear H'
    obtain ⟨x3_1, x4_1, rfl, HA, HK1, HO_3, HB⟩ := hrel
    cases gk with
    | zero => exact absurd HA.out (by simp [tacticianlaw02_row.l0])
    | succ k1 =>
      have H := HA.out
      clear HA
      simp only [tacticianlaw02_row.l0] at H
      by_cases c2 : x4_1 < (l0.length : Int)
      · rw [if_pos c2] at H
        have c2b0 : decide (x4_1 < (l0.length : Int)) = true := decide_eq_true c2
        clear c2
        by_cases c3 : 0 ≤ x4_1
        · rw [if_pos c3] at H
          have c3b0 : decide (0 ≤ x4_1) = true := decide_eq_true c3
          clear c3
          replace H := Option.bind_eq_some_iff.mp H
          obtain ⟨⟨t151, t152, t153⟩, A40, H⟩ := H
          replace H : (if x3_1.length < 4398046511104 then (tacticianlaw02_row.l0 k1 l0 (x3_1 ++ [(⟨t151, t152, t153⟩ : S61)]) (wrap64 (x4_1 + 1))) else (none)) = some r := H
          have A4 := Aside0.mk A40
          clear A40
          by_cases c5 : x3_1.length < 4398046511104
          · rw [if_pos c5] at H
            have LMc5 := Aside0.mk c5
            clear c5
            obtain ⟨y154, hy154⟩ : ∃ y_ : List (S61), y_ = (x3_1 ++ [(⟨t151, t152, t153⟩ : S61)]) := ⟨_, rfl⟩
            replace H : (tacticianlaw02_row.l0 k1 l0 y154 (wrap64 (x4_1 + 1))) = some r := by first | (rw [hy154]; with_reducible exact H) | (have H2_ := (Option.bind_some _ _).symm.trans H; rw [hy154]; with_reducible exact H2_) | (have H2_ := (Option.bind_some _ _).symm.trans H; with_reducible exact H2_) | with_reducible exact H | (rw [hy154]; exact H) | exact H
            have Ny154 := Aside0.mk hy154
            clear hy154
            have H' := Aside0.mk H
            clear H
            have p150 : 0 ≤ (x4_1 : Int) := of_decide_eq_true (by first | (with_reducible assumption) | assumption)
            have q150 : x4_1 < (l0.length : Int) := of_decide_eq_true (by first | (with_reducible assumption) | assumption)
            obtain ⟨ad150, e150, hx150_0⟩ := Kd.at_int HR0.out x4_1 p150 q150
            cases e150
            replace hx150_0 := (HB.out.cell (World.block_lt_of_cell? w _ hx150_0)).trans hx150_0
            replace p150 := eq_true p150
            replace q150 := eq_true q150
            go_wp2_with (first | ((with_reducible refine gate_callee (f := 41) rfl ?_); refine goesL_ (some 16) rfl rfl Tryz.func41 (by kernel_rfl) rfl #[.int .i64 (rd l0 x4_1)] rfl (by (try simp only [List.map_toArray, List.map_cons, List.map_nil]); first | done | rfl | (simp only [List.length_drop, List.length_take]; rfl)) ?_; (with_reducible refine (tacticianref01_Int.calls (rd l0 x4_1) t151 t152 t153 _ A4.out).mono ?_); rintro e w6 ⟨rfl, hb⟩; refine ⟨_, rfl, ?_⟩; have n0_ := Aside0.mk (Kd.R_below (by (with_reducible repeat (first | apply Kd.R_alloc | apply Kd.R_drewN | apply Kd.R_drew)); exact HO_3.out) hb); have n1_ := Aside0.mk (below_step (by repeat (first | (with_reducible first | exact HB.out | apply yA | apply yN | apply yD) | exact HB.out)) hb); clear HO_3; clear HB; have HO_3 := n0_; have HB := n1_; clear n0_ n1_; (try clear hb); (try clear hb2); (try clear hk); (try clear hi)) | ((with_reducible refine gate_builtin (b := .append) (xs := #[.tmp 11, .tmp 17]) rfl ?_); at_builtin; refine Kd.R_append k61 (w0 := w) w.heap.size rfl (.tmp 11) (.tmp 17) 40 61 (.agg #[(.int .i64 0), (.int .i64 0), (.string ⟨#[]⟩)]) 32 rfl Tryz.underlying40 info61 rfl (by decide) (by omega) u3 x3_1 (⟨t151, t152, t153⟩ : S61) [.int .i64 t151, .int .i64 t152, .string t153] (fun _ => True) (fun _ => False) rfl rfl ?aP (fun _ hk => hk.elim) ?aF ?aO ?aB ?aS ?aL ?_; (case aP => exact k61_mkM _ _ _ (⟨t151, t152, t153⟩ : S61)); (case aB => exact (by repeat (first | (with_reducible first | exact HB.out | apply yA | apply yN | apply yD) | exact HB.out))); (case aF => exact (fun _ _ => trivial)); (case aO => exact (by (with_reducible repeat (first | apply Kd.R_alloc | apply Kd.R_drewN | apply Kd.R_drew)); exact HO_3.out)); (case aS => exact (below_size (by repeat (first | (with_reducible first | exact HB.out | apply yA | apply yN | apply yD) | exact HB.out)))); (case aL => have := LMc5.out; omega); intro v155 w7 ho hb hg hat; rw [← Ny154.out] at ho; have n0_ := Aside0.mk (hb); have n1_ := Aside0.mk (ho); clear HB; clear HO_3; have HB := n0_; have HO156 := n1_; clear n0_ n1_; clear ho hb hg hat))
            go_roundg k1
            case measure => have := HK1.out; omega
            case rel => exact ⟨(y154), (wrap64 (x4_1 + 1)), (by first | rfl | (simp; done) | (simp [*]; done)), H', ⟨by have := HK1.out; omega⟩, ⟨by (with_reducible repeat (first | apply Kd.R_alloc | apply Kd.R_drewN | apply Kd.R_drew)); exact HO156.out⟩, ⟨by repeat (first | (with_reducible first | exact HB.out | apply yA | apply yN | apply yD) | exact HB.out)⟩⟩
          · rw [if_neg c5] at H
            exact absurd H (by simp)
        · rw [if_neg c3] at H
          exact absurd H (by simp)
      · rw [if_neg c2] at H
        have c2b0 : decide (x4_1 < (l0.length : Int)) = false := decide_eq_false c2
        clear c2
        obtain rfl := Option.some.inj H
        go_wp2
        go_ret
        exact ⟨_, by first | rfl | (simp [errW_none, errW_some] <;> rfl) | (simp [*, errW_none, errW_some] <;> rfl), by (with_reducible repeat (first | apply Kd.R_alloc | apply Kd.R_drewN | apply Kd.R_drew)); exact HO_3.out, by repeat (first | (with_reducible first | exact HB.out | apply yA | apply yN | apply yD) | exact HB.out)⟩
set_option maxHeartbeats 1000000 in
theorem placeOut.calls (gb : Nat) (A : Option Addr) (n cc : Nat) (c : Int) (W : World) (hn : n ≤ 9223372036854775807) (hc : W.cell? ⟨gb, 0, none⟩ = some (.slice A n cc)) :
    Calls Tryz.prog 97 (#[.int .i64 c] ++ #[.pointer (some ⟨gb, 0, none⟩)]) W fun e w' => e = .returned (.bool (decide (c < 0) || decide ((n : Int) ≤ c))) ∧ Below W.heap.size W w' := by
  by_cases h0 : c < 0
  · have z0 : decide (c < 0) = true := decide_eq_true h0
    rw [z0, Bool.true_or]
    go_enter Tryz.func97, Tryz.ntmps97
    go_wp2
    go_ret
    exact ⟨rfl, Below.refl _ _⟩
  · have z0 : decide (c < 0) = false := decide_eq_false h0
    rw [z0, Bool.false_or]
    by_cases h1 : (n : Int) ≤ c
    · have z1 : decide ((n : Int) ≤ c) = true := decide_eq_true h1
      rw [z1]
      go_enter Tryz.func97, Tryz.ntmps97
      go_wp2
      go_ret
      exact ⟨rfl, Below.refl _ _⟩
    · have z1 : decide ((n : Int) ≤ c) = false := decide_eq_false h1
      rw [z1]
      go_enter Tryz.func97, Tryz.ntmps97
      go_wp2
      go_ret
      exact ⟨rfl, Below.refl _ _⟩
set_option maxRecDepth 100000 in
set_option maxHeartbeats 1000000 in
theorem idxFuncI.calls (p : Int → Bool) (g : Nat) (lb : Array Value) (eg : ∀ args w, (callFunc g args).run Tryz.prog w = .ok (.enter g args) w) (A0 : Option Addr) (c0 : Nat) (l0 : List Int) (w : World)
    (hr0 : Kd.C (Kd.int .i64) w A0 l0.length l0) (hlen : l0.length ≤ 4611686018427387904)
    (hp : ∀ x ∈ l0, ∀ (W : World), Below w.heap.size w W → Calls Tryz.prog g (#[.int .i64 x] ++ lb) W fun e w' => e = .returned (.bool (p x)) ∧ Below W.heap.size W w') :
    Calls Tryz.prog 125 #[.slice A0 l0.length c0, .func (.func g) #[] lb] w fun e w' => e = .returned (.int .i64 (idxF p l0)) ∧ Below w.heap.size w w' := by
  have hu61 := Tryz.underlying61
  have HR0 := Aside0.mk hr0
  have HP := Aside0.mk hp
  clear hr0 hp
  have HB := Aside0.mk (Below.refl w.heap.size w)
  obtain ⟨n, hn⟩ : ∃ n, n = l0.length := ⟨_, rfl⟩
  rw [← hn]
  have hle : n ≤ 4611686018427387904 := by omega
  have HN := Aside0.mk hn
  clear hn hlen
  go_enter Tryz.func125, Tryz.ntmps125
  go_wp2
  go_loopg [5, 8] n (fun gg _ s8 wr => ∃ kk : Nat, kk ≤ n ∧ n - kk ≤ gg ∧ s8 = .int .i64 kk ∧ Aside0 (Below w.heap.size w wr) ∧ Aside0 (∀ j (hj : j < kk) (hj2 : j < l0.length), p l0[j] = false))
  case atStart => exact ⟨0, Nat.zero_le _, by omega, rfl, HB, ⟨fun j hj => absurd hj (Nat.not_lt_zero _)⟩⟩
  case round =>
    clear HB
    obtain ⟨kk, hkk, hg, rfl, HB, HA⟩ := hrel
    by_cases hlt : kk < n
    · have hltz : (kk : Int) < (n : Int) := by omega
      have hlt' : kk < l0.length := by have := HN.out; omega
      obtain ⟨ad, e1, hcs⟩ := HR0.out.2.2 (by omega)
      cases e1
      obtain ⟨cs, hcs1, hcs2, hcs3⟩ := hcs kk l0[kk] (List.getElem?_eq_getElem hlt')
      have hcs2' : cs = [.int .i64 l0[kk]] := hcs2
      subst hcs2'
      have hx0 : w.cell? (ad.add kk) = some (.int .i64 l0[kk]) := by
        have h9 := hcs3 0 _ rfl
        rw [show kk * (Kd.int .i64).sz + 0 = kk from Nat.mul_one kk] at h9
        exact h9
      replace hx0 := (HB.out.cell (World.block_lt_of_cell? w _ hx0)).trans hx0
      have hcall := HP.out l0[kk] (List.getElem_mem hlt') wr HB.out
      have hy : l0[kk]? = some l0[kk] := List.getElem?_eq_getElem hlt'
      clear hcs3 hcs1 hcs2
      generalize l0[kk] = y at hx0 hcall hy
      have HY := Aside0.mk hy
      clear hy hlt'
      cases hq : p y with
      | true =>
        rw [hq] at hcall
        have HC := Aside0.mk hcall
        have HQ := Aside0.mk hq
        clear hcall hq
        go_wp2_with (go_at_fn g; refine HC.out.mono ?_; rintro e w' ⟨rfl, hb'⟩)
        go_ret
        refine ⟨?_, HB.out.trans (hb'.mono HB.out.size)⟩
        have hlt' : kk < l0.length := by have := HN.out; omega
        rw [idxF_hit p l0 kk hlt' (by rw [(List.getElem?_eq_some_iff.1 HY.out).2]; exact HQ.out) (fun j hj => HA.out j hj (by omega))]
        rfl
      | false =>
        rw [hq] at hcall
        have HC := Aside0.mk hcall
        have HQ := Aside0.mk hq
        clear hcall hq
        go_wp2_with (go_at_fn g; refine HC.out.mono ?_; rintro e w' ⟨rfl, hb'⟩)
        go_roundg (n - (kk + 1))
        case measure => omega
        case rel =>
          refine ⟨kk + 1, by omega, by omega, by go_num, ⟨HB.out.trans (hb'.mono HB.out.size)⟩, ⟨fun j hj hj2 => ?_⟩⟩
          by_cases e : j = kk
          · subst e
            rw [(List.getElem?_eq_some_iff.1 HY.out).2]; exact HQ.out
          · exact HA.out j (by omega) hj2
    · have hltz : decide (kk < n) = false := by simpa using hlt
      have HE : Aside0 (kk = n) := ⟨by omega⟩
      clear hlt
      go_wp2
      go_ret
      refine ⟨?_, HB.out⟩
      rw [idxF_miss p l0 (fun j hj => HA.out j (by have := HN.out; have := HE.out; omega) hj)]
      rfl
theorem contFuncI.calls (p : Int → Bool) (g : Nat) (lb : Array Value) (eg : ∀ args w, (callFunc g args).run Tryz.prog w = .ok (.enter g args) w) (A0 : Option Addr) (c0 : Nat) (l0 : List Int) (w : World)
    (hr0 : Kd.C (Kd.int .i64) w A0 l0.length l0) (hlen : l0.length ≤ 4611686018427387904)
    (hp : ∀ x ∈ l0, ∀ (W : World), Below w.heap.size w W → Calls Tryz.prog g (#[.int .i64 x] ++ lb) W fun e w' => e = .returned (.bool (p x)) ∧ Below W.heap.size W w') :
    Calls Tryz.prog 96 #[.slice A0 l0.length c0, .func (.func g) #[] lb] w fun e w' => e = .returned (.bool (l0.any p)) ∧ Below w.heap.size w w' := by
  have hc := idxFuncI.calls p g lb eg A0 c0 l0 w hr0 hlen hp
  have HE := Aside0.mk (idxF_nonneg p l0)
  clear hr0 hp
  generalize idxF p l0 = r at hc HE
  rw [← HE.out]
  go_enter Tryz.func96, Tryz.ntmps96
  go_wp2_with (go_at_call 125; refine hc.mono ?_; rintro e w' ⟨rfl, hb'⟩)
  go_ret
  exact ⟨rfl, hb'⟩
set_option maxHeartbeats 1000000 in
theorem placesRow.calls (gb : Nat) (B : Option Addr) (cb : Nat) (by_ : List Int) (A : Option Addr) (n cc : Nat) (W : World) (hn : n ≤ 9223372036854775807) (hc : W.cell? ⟨gb, 0, none⟩ = some (.slice B by_.length cb)) (hC : Kd.C (Kd.int .i64) W B by_.length by_) (hl : by_.length ≤ 4611686018427387904) :
    Calls Tryz.prog 95 (#[.slice A n cc] ++ #[.pointer (some ⟨gb, 0, none⟩)]) W fun e w' => e = .returned (.bool (by_.any fun c => decide (c < 0) || decide ((n : Int) ≤ c))) ∧ Below W.heap.size W w' := by
  have eg : ∀ args w, (callFunc 97 args).run Tryz.prog w = .ok (.enter 97 args) w := enters_of Tryz.func97 (by kernel_rfl) rfl
  have hb : Below W.heap.size W (W.alloc (.cells #[.slice A n cc] 40)) := below_alloc (Below.refl _ _) _
  have hcall := contFuncI.calls (fun c => decide (c < 0) || decide ((n : Int) ≤ c)) 97 #[.pointer (some ⟨W.heap.size, 0, none⟩)] eg B cb by_ (W.alloc (.cells #[.slice A n cc] 40)) (Kd.C_below hC hb) hl (fun x _ W' hb' => placeOut.calls W.heap.size A n cc x W' hn (blk_cell (blk_below (blk_new W _) hb') 0))
  have HC := Aside0.mk hcall
  have hc2 : (W.alloc (.cells #[.slice A n cc] 40)).cell? ⟨gb, 0, none⟩ = some (.slice B by_.length cb) := Lib.cell?_alloc_some _ hc
  clear hcall hC hl hc
  generalize (by_.any fun c => decide (c < 0) || decide ((n : Int) ≤ c)) = b at HC ⊢
  generalize by_.length = m at HC hc2
  go_enter Tryz.func95, Tryz.ntmps95
  go_wp2_with (go_at_call 96; refine HC.out.mono ?_; rintro e w' ⟨rfl, hb'⟩)
  go_ret
  exact ⟨rfl, below_step hb hb'⟩
def rows_places.f (l0 : List (List V)) (l1 : List Int) : Option Bool := if l0.length ≤ 4611686018427387904 ∧ l1.length ≤ 4611686018427387904 then some (placesB l0 l1) else none
set_option maxHeartbeats 1000000 in
theorem rows_places.calls (A0 : Option Addr) (c0 : Nat) (l0 : List (List V)) (A1 : Option Addr) (c1 : Nat) (l1 : List Int) (r : Bool) (w : World) (hr0 : Kd.C (Kd.slice 61 k61) w A0 l0.length l0) (hc0 : l0.length ≤ c0) (hr1 : Kd.C (Kd.int .i64) w A1 l1.length l1) (hc1 : l1.length ≤ c1) (h : rows_places.f l0 l1 = some r) :
    Calls Tryz.prog 58 #[.slice A0 l0.length c0, .slice A1 l1.length c1] w fun e w' => e = .returned (.bool r) ∧ Below w.heap.size w w' := by
  unfold rows_places.f at h
  by_cases hs : l0.length ≤ 4611686018427387904 ∧ l1.length ≤ 4611686018427387904
  case neg => rw [if_neg hs] at h; cases h
  rw [if_pos hs] at h
  obtain rfl := Option.some.inj h
  clear h
  have eg : ∀ args w, (callFunc 95 args).run Tryz.prog w = .ok (.enter 95 args) w := enters_of Tryz.func95 (by kernel_rfl) rfl
  have hb : Below w.heap.size w (w.alloc (.cells #[.slice A1 l1.length c1] 34)) := below_alloc (Below.refl _ _) _
  have hcall := contFuncR.calls (fun x => l1.any fun c => decide (c < 0) || decide ((x.length : Int) ≤ c)) 95 #[.pointer (some ⟨w.heap.size, 0, none⟩)] eg A0 c0 l0 (w.alloc (.cells #[.slice A1 l1.length c1] 34)) (Kd.C_below hr0 hb) hs.1 (fun x _ A c W' hxc hCx hb' => placesRow.calls w.heap.size A1 c1 l1 A x.length c W' hCx.2.1 (blk_cell (blk_below (blk_new w _) hb') 0) (Kd.C_below hr1 (below_step hb hb')) hs.2)
  have HC := Aside0.mk hcall
  unfold placesB
  clear hcall hr0 hr1 hc0 hc1 hs
  generalize (l0.any fun x => l1.any fun c => decide (c < 0) || decide ((x.length : Int) ≤ c)) = b at HC ⊢
  generalize l0.length = n at HC ⊢
  generalize l1.length = m at HC hb ⊢
  cases b
  all_goals
    go_enter Tryz.func58, Tryz.ntmps58
    go_wp2_with (go_at_call 68; refine HC.out.mono ?_; rintro e w' ⟨rfl, hb'⟩)
    go_ret
    exact ⟨rfl, below_step hb hb'⟩
/-! ### rows_By_1: function 100 -/
section
open Go.Sort
abbrev KK := S36
theorem rd_atK (l : List KK) (k : Nat) (h : k < l.length) : rd_T36 l (k : Int) = l[k] := by
  unfold rd_T36
  simp [h]
/-- keys, in plain words -/
def keysOf (l : List KK) : List (Int × Bool) := l.map fun k => (k.f0, k.f1)
theorem belowD_grownW {B : Nat} {w W : World} (h : BelowD B w W) (hB : B ≤ W.heap.size) (n : Nat) (os : Array Obj) : BelowD B w (grow (W.drewN n) os) := ⟨below_grownW h.b hB n os, Nat.le_trans h.d (Nat.le_add_right _ _)⟩
set_option maxHeartbeats 4000000 in
set_option maxRecDepth 100000 in
theorem byKeys.calls (gb : Nat) (K : Option Addr) (ck : Nat) (ks : List KK) (A0 A1 : Option Addr) (c0 c1 : Nat) (a b : List V) (w : World) (hc : w.cell? ⟨gb, 0, none⟩ = some (.slice K ks.length ck)) (hK : Kd.C k36 w K ks.length ks)
    (hA : Kd.C k61 w A0 a.length a) (hB : Kd.C k61 w A1 b.length b) (la : a.length ≤ 4611686018427387904) (lb : b.length ≤ 4611686018427387904) (lk : ks.length ≤ 4611686018427387904) (hp : ∀ k ∈ ks, 0 ≤ k.f0 ∧ k.f0 < a.length ∧ k.f0 < b.length) :
    Calls Tryz.prog 100 (#[.slice A0 a.length c0, .slice A1 b.length c1] ++ #[.pointer (some ⟨gb, 0, none⟩)]) w fun e w' => e = .returned (.int .i64 (cfK (keysOf ks) a b)) ∧ BelowD w.heap.size w w' := by
  have mixed : Tryz.prog.follows .mixedOrders = true := by kernel_rfl
  have hu61 := Tryz.underlying61
  have hu36 := Tryz.underlying36
  have HK := Aside0.mk hK
  have HA := Aside0.mk hA
  have HB0 := Aside0.mk hB
  have HP := Aside0.mk hp
  have HOR := Aside0.mk (fun W (hb : Below w.heap.size w W) => rows_Order.grows A0 A1 c0 c1 a b (cfR a b) W (Kd.C_below hA hb) (Kd.C_below hB hb) (by unfold rows_Order.f; rw [if_pos ⟨la, lb⟩]))
  have HB := Aside0.mk (BelowD.refl w.heap.size w)
  clear hK hA hB hp la lb
  obtain ⟨n, hn⟩ : ∃ n, n = ks.length := ⟨_, rfl⟩
  rw [← hn] at hc
  have hle : n ≤ 4611686018427387904 := by omega
  have HN := Aside0.mk hn
  clear hn lk
  obtain ⟨na, hna⟩ : ∃ na, na = a.length := ⟨_, rfl⟩
  obtain ⟨nb, hnb⟩ : ∃ nb, nb = b.length := ⟨_, rfl⟩
  rw [← hna, ← hnb] at HOR ⊢
  have HNA := Aside0.mk hna
  have HNB := Aside0.mk hnb
  clear hna hnb
  go_enter Tryz.func100, Tryz.ntmps100
  go_wp2
  clear hc
  go_loopg [7, 8, 11] n (fun gg _ _ s11 wr => ∃ kk : Nat, kk ≤ n ∧ n - kk ≤ gg ∧ s11 = .int .i64 kk ∧ Aside0 (BelowD w.heap.size w wr) ∧ Aside0 (cfK (keysOf ks) a b = cfK (keysOf (ks.drop kk)) a b))
  case atStart => exact ⟨0, Nat.zero_le _, by omega, rfl, HB, ⟨rfl⟩⟩
  case round =>
    clear HB
    obtain ⟨kk, hkk, hg, rfl, HB, HA2⟩ := hrel
    by_cases hlt : kk < n
    · have hltz : (kk : Int) < (n : Int) := by omega
      have hlt' : kk < ks.length := by have := HN.out; omega
      obtain ⟨ad, e1, hx0, hx1⟩ := at_T36 HK.out (kk : Int) (by omega) (by omega)
      cases e1
      rw [rd_atK _ _ hlt'] at hx0 hx1
      simp only [Int.toNat_natCast] at hx0 hx1
      replace hx0 := cell_keeps HB.out.b hx0
      replace hx1 := cell_keeps HB.out.b hx1
      have hkr := HP.out ks[kk] (List.getElem_mem hlt')
      have EK := Aside0.mk (List.drop_eq_getElem_cons hlt')
      generalize ks[kk] = x at hx0 hx1 hkr EK
      obtain ⟨col, desc⟩ := x
      dsimp only at hx0 hx1 hkr
      have r0 : 0 ≤ col := hkr.1
      have r1 : col < (na : Int) := by have := HNA.out; omega
      have r2 : col < (nb : Int) := by have := HNB.out; omega
      obtain ⟨aa, ea, ha0, ha1, ha2⟩ := at_T61 HA.out col r0 (by omega)
      cases ea
      obtain ⟨ba, eb, hb0, hb1, hb2⟩ := at_T61 HB0.out col r0 (by omega)
      cases eb
      have eA : rd_T61 a col = atR a col := rfl
      have eB : rd_T61 b col = atR b col := rfl
      rw [eA] at ha0 ha1 ha2
      rw [eB] at hb0 hb1 hb2
      generalize hxx : atR a col = x at ha0 ha1 ha2
      generalize hyy : atR b col = y at hb0 hb1 hb2
      have EX := Aside0.mk (And.intro hxx hyy)
      clear hxx hyy hkr hlt' eA eB
      have HB1 := Aside0.mk (dA HB.out (.cells #[.int .i64 col, .bool desc] 36))
      have hbox := blk_new wr (.cells #[.int .i64 col, .bool desc] 36)
      have hsz := HB1.out.b.size
      have cg : ∀ (ad : Addr) (v : Value), w.cell? ad = some v → ∀ q os, (grow ((wr.alloc (.cells #[.int .i64 col, .bool desc] 36)).drewN q) os).cell? ad = some v := fun ad v h q os => cell_keeps (below_grownW HB1.out.b hsz q os) h
      have ca0 := cg _ _ ha0
      have ca1 := cg _ _ ha1
      have ca2 := cg _ _ ha2
      have cb0 := cg _ _ hb0
      have cb1 := cg _ _ hb1
      have cb2 := cg _ _ hb2
      have ck0 : ∀ q os, (grow ((wr.alloc (.cells #[.int .i64 col, .bool desc] 36)).drewN q) os).cell? ⟨wr.heap.size, 0, none⟩ = some (.int .i64 col) := fun q os => cell_keeps (below_grownW (Below.refl _ _) (Nat.le_refl _) q os) (blk_cell hbox 0)
      have ck1 : ∀ q os, (grow ((wr.alloc (.cells #[.int .i64 col, .bool desc] 36)).drewN q) os).cell? ⟨wr.heap.size, 1, none⟩ = some (.bool desc) := fun q os => cell_keeps (below_grownW (Below.refl _ _) (Nat.le_refl _) q os) (blk_cell hbox 1)
      clear cg ha0 ha1 ha2 hb0 hb1 hb2 hbox hsz
      have hcg : ∀ q os, Calls Tryz.prog 101 #[.agg #[.int .i64 x.f0, .int .i64 x.f1, .string x.f2], .agg #[.int .i64 y.f0, .int .i64 y.f1, .string y.f2]] (grow ((wr.alloc (.cells #[.int .i64 col, .bool desc] 36)).drewN q) os) fun e w' => e = .returned (.int .i64 (cfV x y)) ∧ ∃ q' os', w' = grow ((grow ((wr.alloc (.cells #[.int .i64 col, .bool desc] 36)).drewN q) os).drewN q') os' := fun q os =>
        (value_Order.grows 4 x.f0 x.f1 x.f2 y.f0 y.f1 y.f2 (cfV x y) _ (by rw [value_Order.at]; rfl)).mono fun _ _ ⟨he, hb⟩ => ⟨he, hb.grown⟩
      have hcv := cfV_cases x y
      have HE : Aside0 (cfK (keysOf ks) a b = if (if desc = true then - cfV x y else cfV x y) ≠ 0 then (if desc = true then - cfV x y else cfV x y) else cfK (keysOf (ks.drop (kk + 1))) a b) := ⟨by
        rw [HA2.out, EK.out]
        show cfK ((col, desc) :: keysOf (ks.drop (kk + 1))) a b = _
        rw [cfK_cons]
        dsimp only
        rw [EX.out.1, EX.out.2]⟩
      generalize cfV x y = c at hcg hcv HE
      have QC : (c = 0 ∧ Aside0 (cfK (keysOf ks) a b = cfK (keysOf (ks.drop (kk + 1))) a b)) ∨ ((c = 1 ∨ c = -1) ∧ Aside0 (cfK (keysOf ks) a b = if desc = true then - c else c)) := by
        rcases hcv with h | h | h
        · refine .inr ⟨.inr h, ⟨?_⟩⟩
          rw [HE.out, h]; cases desc <;> rfl
        · refine .inl ⟨h, ⟨?_⟩⟩
          rw [HE.out, h]; cases desc <;> rfl
        · refine .inr ⟨.inl h, ⟨?_⟩⟩
          rw [HE.out, h]; cases desc <;> rfl
      clear HE hcv
      go_wp2_with fail
      go_quiet_grown (first | (go_at_call 101; refine Calls.grown_of (hcg _ _)))
      have HB3 := Aside0.mk (belowD_grownW HB1.out HB1.out.b.size nq osq)
      have dk1 := ck1 nq osq
      clear ca0 ca1 ca2 cb0 cb1 cb2 ck0 ck1 hcg HB1
      generalize grow ((wr.alloc (.cells #[.int .i64 col, .bool desc] 36)).drewN nq) osq = w3 at HB3 dk1 ⊢
      rcases QC with ⟨rfl, HE⟩ | ⟨rfl | rfl, HE⟩
      · cases desc
        all_goals
          go_wp2
          go_roundg (n - (kk + 1))
          case measure => omega
          case rel => exact ⟨kk + 1, by omega, by omega, by go_num, HB3, HE⟩
      · cases desc
        all_goals
          go_wp2
          go_ret
          exact ⟨by rw [HE.out]; rfl, HB3.out⟩
      · cases desc
        all_goals
          go_wp2
          go_ret
          exact ⟨by rw [HE.out]; rfl, HB3.out⟩
    · have hltz : decide (kk < n) = false := by simpa using hlt
      have HE : Aside0 (cfK (keysOf ks) a b = cfR a b) := ⟨by
        rw [HA2.out, List.drop_of_length_le (by have := HN.out; omega)]; rfl⟩
      clear hlt HA2
      generalize cfR a b = r at HOR HE
      go_wp2_with (go_at_call 63; refine (HOR.out _ HB.out.b).mono ?_; rintro e w' ⟨rfl, hb'⟩)
      go_ret
      exact ⟨by rw [HE.out]; rfl, belowD_step HB.out hb'⟩
end
theorem byFn.calls (K : Option Addr) (n ck : Nat) (w : World) : Calls Tryz.prog 61 #[.slice K n ck] w fun e w' => e = .returned (.func (.func 100) #[] #[.pointer (some ⟨w.heap.size, 0, none⟩)]) ∧ w' = w.alloc (.cells #[.slice K n ck] 32) := by
 go_enter Tryz.func61, Tryz.ntmps61
 go_wp2
 go_ret
 exact ⟨rfl, rfl⟩
end Go.Proofs.YtmhobbdedmjmnaaGreatDoor.Q
end
section
/- Each function reached is shown to return what the plain function beside it computes, wherever that is defined (written by a program of ours for this seat). -/
namespace Go.Proofs.YtmhobbdedmjmnaaGreatDoor.Q
open Go.RowKit Go.Proofs.YtmhobbdedmjmnaaGreatDoorW.PrintWords Go.Proofs.YtmhobbdedmjmnaaGreatDoorW.PrintLast Go.Proofs.YtmhobbdedmjmnaaGreatDoorW.PrintMore
attribute [local go_sem] max2_int min2_int max_two min_two max_three min_three max_four min_four   -- for this text's walks alone
set_option linter.unusedVariables false
set_option linter.unusedSimpArgs false
/-! ### rows_Ordered: function 22 -/
section
open Go.Sort
variable {ops : Array Oper} {rest : List Oper} {o : Oper} {a : Act} {Q : Exit → Act → World → Prop}
theorem append_int {W : World} {base : Nat} (hgd : o.guard = none) (s x : Operand) (ho : o.op = .call { callee := .builtin .append, args := #[s, x], argTypes := #[34, 34] })
    (v : Value) (xs : List Int) (p : Int) (hs : a.eval s = v) (hx : a.eval x = .slice (some ⟨W.heap.size, 0, none⟩) 1 1)
    (HO : Kd.R (Kd.int .i64) 3 W base (fun _ => True) v xs) (hbase : base ≤ W.heap.size) (hl : xs.length ≤ 5000000)
    (h : ∀ v1 w1, Kd.R (Kd.int .i64) 3 w1 base (fun _ => True) v1 (xs ++ [p]) → Below base W w1 → wpList Tryz.prog ops Q rest (a.put o.dst v1) w1) :
    wpList Tryz.prog ops Q (o :: rest) a (W.alloc (.cells #[.int .i64 p] 3)) := by
  refine Kd.R_append (Kd.int .i64) (w0 := W) base hgd s x 34 3 (.int .i64 0) 8 ho Tryz.underlying34 (by kernel_rfl) rfl (by decide) (by omega) v xs p [.int .i64 p] (fun _ => True) (fun _ => False) hs hx rfl (fun _ hk => hk.elim) (fun _ _ => trivial) HO (Below.refl _ _) hbase (by omega) (fun v1 w1 h1 h2 _ _ => h v1 w1 h1 h2)
/-- the rows in the order of keys -/
theorem sortKeys.calls (gb : Nat) (K : Option Addr) (ck : Nat) (ks : List KK) (v : Value) (xs : List (List V)) (w0 w : World) (hb : Below w0.heap.size w0 w) (hbox : w.heap[gb]? = some (.cells #[.slice K ks.length ck] 32 (0, 0))) (hK : Kd.C k36 w0 K ks.length ks)
    (h : Kd.S (Kd.slice 61 k61) 40 w w0.heap.size (fun _ => True) v xs) (hl : okR xs = true) (lk : ks.length ≤ 1000000) (hp : placesB xs (ks.map fun k => k.f0) = true) :
    Calls Tryz.prog 60 #[v, .func (.func 100) #[] #[.pointer (some ⟨gb, 0, none⟩)]] w fun e' w' => e' = .returned (.tuple #[]) ∧ Kd.S (Kd.slice 61 k61) 40 w' w0.heap.size (fun _ => True) v (sortBy (cfK (keysOf ks)) xs) ∧ w.grownBy w' v.ownBlock ∧ (∀ (B : Nat) (w1 : World), B ≤ w0.heap.size → Below B w1 w → B ≤ w.heap.size → Below B w1 w') := by
  have hl' := okR_spec hl
  have eg : ∀ args w, (callFunc 100 args).run Tryz.prog w = .ok (.enter 100 args) w := enters_of Tryz.func100 (by kernel_rfl) rfl
  have hk36 : Kd.Heap k36 := Kd.heap_iso _ (Kd.heap_pair (Kd.heap_int _) Kd.heap_bool)
  have hin : ∀ x ∈ xs, ∀ k ∈ ks, 0 ≤ k.f0 ∧ k.f0 < (x.length : Int) := fun x hx k hk => by
    unfold placesB at hp
    have h1 : (xs.any fun x => (ks.map fun k => k.f0).any fun c => decide (c < 0) || decide ((x.length : Int) ≤ c)) = false := by simpa using hp
    have h2 := (List.any_eq_false.1 h1) x hx
    have h3 : ((ks.map fun k => k.f0).any fun c => decide (c < 0) || decide ((x.length : Int) ≤ c)) = false := by simpa using h2
    have h4 := (List.any_eq_false.1 h3) k.f0 (List.mem_map.2 ⟨k, hk, rfl⟩)
    rw [Bool.not_eq_true, Bool.or_eq_false_iff] at h4
    have h5 := of_decide_eq_false h4.1
    have h6 := of_decide_eq_false h4.2
    omega
  have hc := sortS Tryz.sortR (Kd.slice 61 k61) rfl 40 (cfK (keysOf ks)) (cfK_tc _) 100 #[.pointer (some ⟨gb, 0, none⟩)] eg v xs w w0.heap.size _ h (by have := hl'.1; omega) (fun x y cx cy W hx hy hMx hMy hW => by
    obtain ⟨A0, c0, rfl, _, hC0⟩ := M_row_reads hMx
    obtain ⟨A1, c1, rfl, _, hC1⟩ := M_row_reads hMy
    have hcell : W.heap[gb]? = _ := (hW gb (blk_lt hbox) (Kd.S_ne h hbox (by decide))).trans hbox
    have hKW : Kd.C k36 W K ks.length ks := hk36.C (fun k hk => (hW k (Nat.lt_of_lt_of_le hk hb.size) (fun e => by have := Kd.S_base h k e.symm; omega)).trans (hb.block k hk)) hK
    exact byKeys.calls gb K ck ks A0 A1 c0 c1 x y W (blk_cell hcell 0) hKW hC0 hC1 (by have := hl'.2 x hx; omega) (by have := hl'.2 y hy; omega) (by omega) (fun k hk => ⟨(hin x hx k hk).1, (hin x hx k hk).2, (hin y hy k hk).2⟩))
  change Calls Tryz.prog 60 _ _ _ at hc
  exact hc
end
def rows_Ordered.f (l0 : List (List V)) (l1 : List KK) : Option (List (List V) × Int) := if smallE [l0] = 0 then (if okR l0 = true ∧ l1.length ≤ 1000000 then (if placesB l0 (l1.map fun k => k.f0) = true then some (sortBy (cfK (keysOf l1)) l0, 0) else some ([], 1)) else none) else some ([], smallE [l0])
set_option maxRecDepth 100000 in
set_option maxHeartbeats 4000000 in
theorem rows_Ordered.calls (A0 : Option Addr) (c0 : Nat) (l0 : List (List V)) (A1 : Option Addr) (c1 : Nat) (l1 : List KK) (r1 : List (List V)) (r2 : Int) (w : World) (hr0 : Kd.C (Kd.slice 61 k61) w A0 l0.length l0) (hc0 : l0.length ≤ c0) (hr1 : Kd.C k36 w A1 l1.length l1) (hc1 : l1.length ≤ c1) (h : rows_Ordered.f l0 l1 = some (r1, r2)) :
    Calls Tryz.prog 22 #[.slice A0 l0.length c0, .slice A1 l1.length c1] w fun e w' => ∃ v0_ : Value, e = .returned (.tuple #[v0_, .int .i64 r2]) ∧ Kd.S (Kd.slice 61 k61) 40 w' w.heap.size (fun _ => True) v0_ r1 ∧ Below w.heap.size w w' := by
  unfold rows_Ordered.f at h
  have HS := Aside0.mk (fun W hb => small_one A0 c0 l0 w W hr0 hc0 hb)
  by_cases hs : smallE [l0] = 0
  case neg =>
    rw [if_neg hs] at h
    simp only [Option.some.injEq, Prod.mk.injEq] at h
    obtain ⟨rfl, rfl⟩ := h
    have hs2 : (smallE [l0] != 0) = true := by simpa using hs
    clear hr0 hc0 hr1 hc1 hs
    generalize smallE [l0] = x at HS hs2 ⊢
    generalize l0.length = n0 at HS ⊢
    generalize l1.length = n1 at *
    go_enter Tryz.func22, Tryz.ntmps22
    go_wp2_with (go_at_call 52; refine (HS.out _ (Below.refl _ _)).mono ?_; rintro e w1 ⟨rfl, hb1⟩)
    go_ret2
    exact ⟨_, rfl, Kd.S_nil _ _ _ _ _, hb1⟩
  rw [if_pos hs] at h
  by_cases hk : okR l0 = true ∧ l1.length ≤ 1000000
  case neg => rw [if_neg hk] at h; cases h
  rw [if_pos hk] at h
  rw [hs] at HS
  have hu36 := Tryz.underlying36
  have HPL := Aside0.mk (fun W (hb : Below w.heap.size w W) A c (hC : Kd.C (Kd.int .i64) W A (l1.map fun k => k.f0).length (l1.map fun k => k.f0)) hcc => rows_places.calls A0 c0 l0 A c (l1.map fun k => k.f0) (placesB l0 (l1.map fun k => k.f0)) W (Kd.C_below hr0 hb) hc0 hC hcc (by
    unfold rows_places.f
    have := (okR_spec hk.1).1
    have := hk.2
    rw [List.length_map, if_pos ⟨by omega, by omega⟩]))
  have HCP := Aside0.mk (fun W (hb : Below w.heap.size w W) => rows_Copy_s.calls A0 c0 l0 l0 W (Kd.C_below hr0 hb) hc0 (by unfold rows_Copy_s.f; rw [if_pos hk.1]))
  have HR1 := Aside0.mk hr1
  have HOK := Aside0.mk hk
  have H := Aside0.mk h
  clear hr0 hc0 hr1 hc1 hs hk h
  generalize l0.length = n0 at HS HPL HCP ⊢
  obtain ⟨n, hn⟩ : ∃ n, n = l1.length := ⟨_, rfl⟩
  rw [← hn]
  have hle : n ≤ 1000000 := by have := HOK.out.2; omega
  have HN := Aside0.mk hn
  clear hn
  go_enter Tryz.func22, Tryz.ntmps22
  go_wp2_with (go_at_call 52; refine (HS.out _ (Below.refl _ _)).mono ?_; rintro e w1 ⟨rfl, hb1⟩; have HB1 := Aside0.mk hb1; clear hb1)
  go_loopg [7, 9, 19] n (fun gg s7 _ s19 wr => ∃ kk : Nat, kk ≤ n ∧ n - kk ≤ gg ∧ s19 = .int .i64 kk ∧ Aside0 (Below w.heap.size w wr) ∧ Aside0 (Kd.R (Kd.int .i64) 3 wr w.heap.size (fun _ => True) s7 ((l1.take kk).map fun k => k.f0)))
  case atStart => exact ⟨0, Nat.zero_le _, by omega, rfl, HB1, ⟨Kd.R_nil _ _ _ _ _⟩⟩
  case round =>
    clear HB1 HS
    obtain ⟨kk, hkk, hg, rfl, HB, HO⟩ := hrel
    obtain ⟨Ao, co, eo⟩ := Kd.R_slice HO.out
    subst eo
    obtain ⟨m, hm⟩ : ∃ m, m = ((l1.take kk).map fun k => k.f0).length := ⟨_, rfl⟩
    rw [← hm] at HO ⊢
    have HM : Aside0 (((l1.take kk).map fun k => k.f0).length ≤ 1000000) := ⟨by rw [List.length_map, List.length_take]; omega⟩
    by_cases hlt : kk < n
    · clear hm
      have hltz : (kk : Int) < (n : Int) := by omega
      have hlt' : kk < l1.length := by have := HN.out; omega
      obtain ⟨ad, e1, hx0, hx1⟩ := at_T36 HR1.out (kk : Int) (by omega) (by omega)
      cases e1
      rw [rd_atK _ _ hlt'] at hx0 hx1
      simp only [Int.toNat_natCast] at hx0 hx1
      replace hx0 := cell_keeps HB.out hx0
      replace hx1 := cell_keeps HB.out hx1
      have EK : Aside0 ((l1.take (kk + 1)).map (fun k => k.f0) = (l1.take kk).map (fun k => k.f0) ++ [l1[kk].f0]) := ⟨by
        rw [List.take_add_one, List.getElem?_eq_getElem hlt', List.map_append]; rfl⟩
      generalize l1[kk] = x at hx0 hx1 EK
      obtain ⟨col, desc⟩ := x
      dsimp only at hx0 hx1 EK
      clear hlt'
      go_wp2_with (at_builtin; refine append_int rfl _ _ rfl _ _ col rfl (by first | (go_simp; done) | (go_simp; rfl)) (Kd.R_alloc HO.out _) (below_alloc HB.out _).size (by have := HM.out; omega) ?_; intro v2 w2 ho2 hb2; have HO2 := Aside0.mk ho2; have HB2 := Aside0.mk ((below_alloc HB.out _).trans hb2); clear ho2 hb2)
      go_roundg (n - (kk + 1))
      case measure => omega
      case rel =>
        refine ⟨kk + 1, by omega, by omega, by go_num, HB2, ⟨?_⟩⟩
        rw [EK.out]
        exact HO2.out
    · have hltz : decide (kk < n) = false := by simpa using hlt
      have HM2 : Aside0 (m = (l1.map fun k => k.f0).length) := ⟨by rw [hm, List.take_of_length_le (by have := HN.out; omega)]⟩
      have HO2 : Aside0 (Kd.C (Kd.int .i64) wr Ao (l1.map fun k => k.f0).length (l1.map fun k => k.f0) ∧ (l1.map fun k => k.f0).length ≤ co) := ⟨by
        have h9 := HO.out
        rw [List.take_of_length_le (by have := HN.out; omega)] at h9
        have h8 := Kd.R_reads' h9
        exact ⟨h8.2.2, by have := h8.1; have := h8.2.1; omega⟩⟩
      have HPC := Aside0.mk (HPL.out wr HB.out Ao co HO2.out.1 HO2.out.2)
      rw [← HM2.out] at HPC
      clear hlt HO hm HO2 HPL
      cases hpb : placesB l0 (l1.map fun k => k.f0) with
      | false =>
        have h := H.out
        rw [hpb, if_neg (by decide)] at h
        simp only [Option.some.injEq, Prod.mk.injEq] at h
        obtain ⟨rfl, rfl⟩ := h
        rw [hpb] at HPC
        clear H hpb
        go_wp2_with (go_at_call 58; refine HPC.out.mono ?_; rintro e w' ⟨rfl, hb'⟩; have HB' := Aside0.mk (below_step HB.out hb'); clear hb')
        go_ret2
        exact ⟨_, rfl, Kd.S_nil _ _ _ _ _, HB'.out⟩
      | true =>
        have h := H.out
        rw [hpb, if_pos rfl] at h
        simp only [Option.some.injEq, Prod.mk.injEq] at h
        obtain ⟨rfl, rfl⟩ := h
        rw [hpb] at HPC
        have HPB := Aside0.mk hpb
        clear H hpb
        go_wp2_with (first
          | (go_at_call 58; refine HPC.out.mono ?_; rintro e w2 ⟨rfl, hb2⟩; have HB2 := Aside0.mk (below_step HB.out hb2); clear hb2)
          | (go_at_call 59; refine (HCP.out _ HB2.out).mono ?_; rintro e w3 ⟨v3, rfl, hv3, hb3⟩; have HV3 := Aside0.mk (Kd.S_lower hv3 HB2.out.size); have HB3 := Aside0.mk (below_step HB2.out hb3); clear hv3 hb3)
          | (go_at_call 61; refine (byFn.calls _ _ _ _).mono ?_; rintro e w4 ⟨rfl, rfl⟩)
          | (go_at_call 60; rw [HN.out]; refine (sortKeys.calls w3.heap.size A1 c1 l1 _ _ w _ (below_alloc HB3.out _) (blk_new w3 _) HR1.out (Kd.S_alloc HV3.out _) HOK.out.1 HOK.out.2 HPB.out).mono ?_; rintro e w5 ⟨rfl, hv5, _, hb5⟩; have HV5 := Aside0.mk hv5; have HB5 := Aside0.mk (hb5 w.heap.size w (Nat.le_refl _) (below_alloc HB3.out _) (below_alloc HB3.out _).size); clear hv5 hb5))
        go_ret2
        exact ⟨_, rfl, HV5.out, HB5.out⟩
-- NOT PRINTED: function 147 (abi_NoEscape)
-- NOT PRINTED: function 116 (strings_Builder_copyCheck)
-- NOT PRINTED: function 77 (strings_Builder_WriteString)
-- NOT PRINTED: function 81 (strings_Builder_String)
-- NOT PRINTED: function 177 (bytealg_MakeNoZero)
-- NOT PRINTED: function 164 (strings_Builder_grow)
-- NOT PRINTED: function 150 (strings_Builder_Grow)
-- NOT PRINTED: function 118 (strings_Join)
/-! ### rows_Written: function 78 -/
section
variable {ops : Array Oper} {rest : List Oper} {o : Oper} {a : Act} {Q : Exit → Act → World → Prop}
theorem append_str {W : World} {base : Nat} (hgd : o.guard = none) (s x : Operand) (ho : o.op = .call { callee := .builtin .append, args := #[s, x], argTypes := #[133, 133] })
    (v : Value) (xs : List ByteArray) (p : ByteArray) (hs : a.eval s = v) (hx : a.eval x = .slice (some ⟨W.heap.size, 0, none⟩) 1 1)
    (HO : Kd.R Kd.string 9 W base (fun _ => True) v xs) (hbase : base ≤ W.heap.size) (hl : xs.length ≤ 5000000)
    (h : ∀ v1 w1, Kd.R Kd.string 9 w1 base (fun _ => True) v1 (xs ++ [p]) → Below base W w1 → wpList Tryz.prog ops Q rest (a.put o.dst v1) w1) :
    wpList Tryz.prog ops Q (o :: rest) a (W.alloc (.cells #[.string p] 9)) := by
  refine Kd.R_append Kd.string (w0 := W) base hgd s x 133 9 (.string ⟨#[]⟩) 16 ho Tryz.underlying133 (by kernel_rfl) rfl (by decide) (by omega) v xs p [.string p] (fun _ => True) (fun _ => False) hs hx rfl (fun _ hk => hk.elim) (fun _ _ => trivial) HO (Below.refl _ _) hbase (by omega) (fun v1 w1 h1 h2 _ _ => h v1 w1 h1 h2)
theorem join_none.calls (sep : ByteArray) (w : World) : Calls Tryz.prog 118 #[.slice none 0 0, .string sep] w fun e w' => e = .returned (.string ⟨#[]⟩) ∧ w' = w := by
  go_enter Tryz.func118, Tryz.ntmps118
  go_wp2
  go_ret
  exact ⟨rfl, rfl⟩
theorem joinAny.calls (v : Value) (xs : List ByteArray) (sep : ByteArray) (w : World) (base : Nat) (h : Kd.R Kd.string 9 w base (fun _ => True) v xs) (hl : xs.length ≤ 1000000) (hj : (Lib.join (xs.map (·.data.toList)) sep.data.toList).length ≤ 140737488355328) :
    Calls Tryz.prog 118 #[v, .string sep] w fun e w' => e = .returned (.string (ofL (Lib.join (xs.map (·.data.toList)) sep.data.toList))) ∧ Below w.heap.size w w' := by
  cases xs with
  | nil =>
    obtain ⟨A, c, rfl⟩ := Kd.R_slice h
    cases A with
    | none =>
      have hc : c = 0 := by
        obtain ⟨_, inner, ho, _⟩ := h
        rcases ho.2 with ⟨he, _⟩ | ⟨g, cap, cur, he, _⟩
        · injection he
        · cases he
      subst hc
      refine (join_none.calls sep w).mono ?_
      rintro e w' ⟨rfl, rfl⟩
      exact ⟨by rw [List.map_nil, Lib.join_nil]; rfl, Below.refl _ _⟩
    | some ad =>
      obtain ⟨g, rfl⟩ := Kd.R_head h
      have hg : g < w.heap.size := Kd.R_lt h g rfl
      exact Tryz.strings_Join g 0 c [] sep w (fun j x hx => by simp at hx) hg (by decide) (Nat.zero_le _) hj
  | cons x xr =>
    obtain ⟨g, cap, rfl, _, hg, _⟩ := Kd.R_form h (by simp)
    have hr := Kd.R_reads' h
    refine Tryz.strings_Join g 0 cap (x :: xr) sep w (fun j y hy => ?_) hg (by omega) hr.2.1 hj
    have hc := Kd.reads_of_C (d := ⟨#[]⟩) hr.2.2
    obtain ⟨ad, e, h2⟩ := hc.2.2 (by simp)
    injection e with e
    have hjl := (List.getElem?_eq_some_iff.1 hy).1
    have h3 := h2 j hjl
    rw [← e, add_at, List.getD_eq_getElem?_getD, hy] at h3
    exact h3
end
def rows_Written.f (l0 : List V) : Option ByteArray := if okRow l0 = true then some (ofL (rowL l0)) else none
set_option maxRecDepth 100000 in
set_option maxHeartbeats 2000000 in
theorem rows_Written.calls (A0 : Option Addr) (c0 : Nat) (l0 : List V) (r : ByteArray) (w : World) (hL_ : Laid w) (hr0 : Kd.C k61 w A0 l0.length l0) (_hc0 : l0.length ≤ c0) (h : rows_Written.f l0 = some r) :
    Calls Tryz.prog 78 #[.slice A0 l0.length c0] w fun e w' => e = .returned (.string r) ∧ Below w.heap.size w w' := by
  unfold rows_Written.f at h
  by_cases hs : okRow l0 = true
  case neg => rw [if_neg hs] at h; cases h
  rw [if_pos hs] at h
  obtain rfl := Option.some.inj h
  have hu61 := Tryz.underlying61
  have HLD := Aside0.mk hL_
  have HR0 := Aside0.mk hr0
  have HS := Aside0.mk (okRow_spec hs)
  have HJ := Aside0.mk (rowL_len hs).1
  clear h hs hL_ hr0
  obtain ⟨n, hn⟩ : ∃ n, n = l0.length := ⟨_, rfl⟩
  rw [← hn]
  have hle : n ≤ 1000 := by have := HS.out.1; omega
  have HN := Aside0.mk hn
  clear hn
  obtain ⟨res, hres⟩ : ∃ res, res = ofL (rowL l0) := ⟨_, rfl⟩
  rw [← hres]
  have HRES := Aside0.mk hres
  clear hres
  go_enter Tryz.func78, Tryz.ntmps78
  go_wp2
  go_loopg [3, 5, 8] n (fun gg s3 _ s8 wr => ∃ kk : Nat, kk ≤ n ∧ n - kk ≤ gg ∧ s8 = .int .i64 kk ∧ Aside0 (Below w.heap.size w wr) ∧ Aside0 (Kd.R Kd.string 9 wr w.heap.size (fun _ => True) s3 ((l0.take kk).map fun v => ofL (wrL v))))
  case atStart => exact ⟨0, Nat.zero_le _, by omega, rfl, ⟨Below.refl _ _⟩, ⟨Kd.R_nil _ _ _ _ _⟩⟩
  case round =>
    obtain ⟨kk, hkk, hg, rfl, HB, HO⟩ := hrel
    obtain ⟨Ao, co, eo⟩ := Kd.R_slice HO.out
    subst eo
    obtain ⟨m, hm⟩ : ∃ m, m = ((l0.take kk).map fun v => ofL (wrL v)).length := ⟨_, rfl⟩
    rw [← hm] at HO ⊢
    have HM : Aside0 (((l0.take kk).map fun v => ofL (wrL v)).length ≤ 1000) := ⟨by rw [List.length_map, List.length_take]; omega⟩
    clear hm
    by_cases hlt : kk < n
    · have hltz : (kk : Int) < (n : Int) := by omega
      have hlt' : kk < l0.length := by have := HN.out; omega
      obtain ⟨ad, e1, hx0, hx1, hx2⟩ := at_T61 HR0.out (kk : Int) (by omega) (by omega)
      cases e1
      rw [rd_at _ _ hlt'] at hx0 hx1 hx2
      simp only [Int.toNat_natCast] at hx0 hx1 hx2
      replace hx0 := cell_keeps HB.out hx0
      replace hx1 := cell_keeps HB.out hx1
      replace hx2 := cell_keeps HB.out hx2
      have hok := HS.out.2 l0[kk] (List.getElem_mem hlt')
      have EK : Aside0 ((l0.take (kk + 1)).map (fun v => ofL (wrL v)) = (l0.take kk).map (fun v => ofL (wrL v)) ++ [ofL (wrL l0[kk])]) := ⟨by
        rw [List.take_add_one, List.getElem?_eq_getElem hlt', List.map_append]; rfl⟩
      generalize l0[kk] = y at hx0 hx1 hx2 hok EK
      have hcall := fun W hL => value_Written.calls y.f0 y.f1 y.f2 (ofL (wrL y)) W hL (by unfold value_Written.f; rw [if_pos (show okV y.f0 y.f1 y.f2 = true from hok)]; rfl)
      have HC := Aside0.mk hcall
      clear hok hcall hlt'
      generalize ofL (wrL y) = s at HC EK
      go_wp2_with (first
        | (go_at_call 117; refine (HC.out _ (HLD.out.below (below_alloc HB.out _))).mono ?_; rintro e w2 ⟨rfl, hb2⟩; have HB2 := Aside0.mk (below_step (below_alloc HB.out _) hb2); have HO2 := Aside0.mk (Kd.R_below HO.out (below_step (below_alloc (Below.refl _ _) _) hb2)); clear hb2)
        | (at_builtin; refine append_str rfl _ _ rfl _ _ s rfl (by first | rfl | (go_simp; done) | (go_simp; rfl)) HO2.out HB2.out.size (by have := HM.out; omega) ?_; intro v3 w3 ho3 hb3; have HO3 := Aside0.mk ho3; have HB3 := Aside0.mk (HB2.out.trans hb3); clear ho3 hb3))
      go_roundg (n - (kk + 1))
      case measure => omega
      case rel =>
        refine ⟨kk + 1, by omega, by omega, by go_num, HB3, ⟨?_⟩⟩
        rw [EK.out]
        exact HO3.out
    · have hltz : decide (kk < n) = false := by simpa using hlt
      have HO2 : Aside0 (Kd.R Kd.string 9 wr w.heap.size (fun _ => True) (.slice Ao m co) (l0.map fun v => ofL (wrL v))) := ⟨by
        have h9 := HO.out
        rw [List.take_of_length_le (by have := HN.out; omega)] at h9
        exact h9⟩
      have hmm : (l0.map fun v => ofL (wrL v)).map (·.data.toList) = l0.map wrL := by rw [List.map_map]; rfl
      have hcall := joinAny.calls _ _ ⟨#[44, 32]⟩ wr _ HO2.out (by rw [List.length_map]; have := HS.out.1; omega) (by rw [hmm]; have := HJ.out; show (Lib.join (l0.map wrL) [44, 32]).length ≤ _; omega)
      rw [hmm, show (⟨#[44, 32]⟩ : ByteArray).data.toList = [44, 32] from rfl] at hcall
      have HC := Aside0.mk hcall
      have HE : Aside0 (res = (⟨#[40]⟩ : ByteArray) ++ ofL (Lib.join (l0.map wrL) [44, 32]) ++ (⟨#[41]⟩ : ByteArray)) := ⟨by
        rw [HRES.out]
        refine ba_ext ?_
        rw [ByteArray.data_append, ByteArray.data_append, Array.toList_append, Array.toList_append]
        rfl⟩
      have hsz : (ofL (Lib.join (l0.map wrL) [44, 32])).size ≤ 404000 := by rw [ofL_size]; exact HJ.out
      clear hcall hlt HO HO2 hmm
      generalize ofL (Lib.join (l0.map wrL) [44, 32]) = j at HC HE hsz
      have h1 : 1 + j.size ≤ 9223372036854775807 := by omega
      have h2 : 1 + j.size + 1 ≤ 9223372036854775807 := by omega
      have h3 : ((⟨#[40]⟩ : ByteArray) ++ j).size + 1 ≤ 9223372036854775807 := by rw [ByteArray.size_append]; exact h2
      clear hsz
      go_wp2_with (go_at_call 118; refine HC.out.mono ?_; rintro e w' ⟨rfl, hb'⟩)
      go_ret
      exact ⟨by rw [HE.out]; rfl, below_step HB.out hb'⟩
def rows_String.f (l0 : List (List V)) : Option (ByteArray × Int) := if smallE [l0] = 0 then (if okRR l0 = true then (if (strR l0).length ≤ 20000 then some (ofL (strR l0), 0) else some (⟨#[]⟩, 2)) else none) else some (⟨#[]⟩, smallE [l0])
set_option maxRecDepth 100000 in
set_option maxHeartbeats 2000000 in
theorem rows_String.calls (A0 : Option Addr) (c0 : Nat) (l0 : List (List V)) (r1 : ByteArray) (r2 : Int) (w : World) (hr0 : Kd.C (Kd.slice 61 k61) w A0 l0.length l0) (hc0 : l0.length ≤ c0) (hL_ : Laid w) (h : rows_String.f l0 = some (r1, r2)) :
  Calls Tryz.prog 48 #[.slice A0 l0.length c0] w fun e w' => e = .returned (.tuple #[.string r1, .int .i64 r2]) ∧ Below w.heap.size w w' := by
 unfold rows_String.f at h
 have HSM := Aside0.mk (fun W hb => small_one A0 c0 l0 w W hr0 hc0 hb)
 by_cases hs : smallE [l0] = 0
 case neg =>
  rw [if_neg hs] at h
  simp only [Option.some.injEq, Prod.mk.injEq] at h
  obtain ⟨rfl, rfl⟩ := h
  have hs2 : (smallE [l0] != 0) = true := by simpa using hs
  clear hL_ hr0 hc0 hs
  generalize smallE [l0] = x at HSM hs2 ⊢
  generalize l0.length = n0 at HSM ⊢
  go_enter Tryz.func48, Tryz.ntmps48
  go_wp2_with (go_at_call 52; refine (HSM.out _ (Below.refl _ _)).mono ?_; rintro e w1 ⟨rfl, hb1⟩)
  go_ret2
  exact ⟨rfl, hb1⟩
 rw [if_pos hs] at h
 by_cases hk : okRR l0 = true
 case neg => rw [if_neg hk] at h; cases h
 rw [if_pos hk] at h
 rw [hs] at HSM
 have HLD := Aside0.mk hL_
 have HR0 := Aside0.mk hr0
 have HS := Aside0.mk (okRR_spec hk)
 have H := Aside0.mk h
 clear h hs hk hL_ hr0 hc0
 obtain ⟨n, hn⟩ : ∃ n, n = l0.length := ⟨_, rfl⟩
 rw [← hn] at HSM ⊢
 have hle : n ≤ 1000000 := by have := HS.out.1; omega
 have HN := Aside0.mk hn
 clear hn
 go_enter Tryz.func48, Tryz.ntmps48
 go_wp2_with (go_at_call 52; refine (HSM.out _ (Below.refl _ _)).mono ?_; rintro e w1 ⟨rfl, hb1⟩; have HB1 := Aside0.mk (below_alloc hb1 (.cells #[.pointer none, .slice none 0 0] 102)); have HI1 : Aside0 (Lib.IsBuilder 102 5 w1.heap.size w1.heap.size (Lib.byteCells (strR (l0.take 0))) (w1.alloc (.cells #[.pointer none, .slice none 0 0] 102))) := ⟨Lib.fresh_isBuilder _ _ w1⟩; have HW1 := Aside0.mk hb1.size; clear hb1)
 generalize w1.alloc (.cells #[.pointer none, .slice none 0 0] 102) = ws at HI1 HB1 ⊢
 generalize w1.heap.size = bb at HI1 HW1 ⊢
 have HBS : Aside0 (bb ≤ ws.heap.size) := ⟨by
  rcases HI1.out with h9 | h9
  ·exact Nat.le_of_lt h9.lt
  ·exact Nat.le_of_lt h9.lt⟩
 go_loopg [7, 16] n (fun gg _ s16 wr => ∃ kk : Nat, kk ≤ n ∧ n - kk ≤ gg ∧ s16 = .int .i64 kk ∧ Aside0 (Below w.heap.size w wr) ∧ Aside0 (Lib.IsBuilder 102 5 bb bb (Lib.byteCells (strR (l0.take kk))) wr) ∧ Aside0 (bb ≤ wr.heap.size))
 case atStart => exact ⟨0, Nat.zero_le _, by omega, rfl, HB1, HI1, HBS⟩
 case round =>
  clear HB1 HI1 HBS HSM
  obtain ⟨kk, hkk, hg, rfl, HB, HI, HBS⟩ := hrel
  by_cases hlt : kk < n
  ·have hltz : (kk : Int) < (n : Int) := by omega
   have hlt' : kk < l0.length := by have := HN.out; omega
   obtain ⟨ad, e1, hcs⟩ := HR0.out.2.2 (by omega)
   cases e1
   obtain ⟨cs, hcs1, ⟨A1, c1, rfl, hle1, hC1⟩, hcs3⟩ := hcs kk l0[kk] (List.getElem?_eq_getElem hlt')
   have hx0 : w.cell? (ad.add kk) = some (.slice A1 l0[kk].length c1) := by
    have h9 := hcs3 0 _ rfl
    rw [show kk * (Kd.slice 61 k61).sz + 0 = kk from Nat.mul_one kk] at h9
    exact h9
   replace hx0 := cell_keeps HB.out hx0
   have hrow := HS.out.2 l0[kk] (List.getElem_mem hlt')
   have htk : strR (l0.take (kk + 1)) = strR (l0.take kk) ++ (rowL l0[kk] ++ [10]) := by
    rw [List.take_add_one, List.getElem?_eq_getElem hlt']; exact strR_snoc _ _
   have hlen : (strR (l0.take kk)).length ≤ kk * 404003 := by
    have := strR_len (l0.take kk) (fun v hv => HS.out.2 v (List.mem_of_mem_take hv))
    rw [List.length_take] at this
    exact Nat.le_trans this (Nat.mul_le_mul_right _ (Nat.min_le_left _ _))
   have hwl := (rowL_len hrow).2
   have hcall := rows_Written.calls A1 c1 l0[kk] (ofL (rowL l0[kk])) wr (HLD.out.below HB.out) (Kd.C_below hC1 HB.out) hle1 (by unfold rows_Written.f; rw [if_pos hrow])
   clear hcs3 hcs1 hcs hC1 hle1
   generalize l0[kk] = y at hx0 hrow htk hcall hwl
   have hsz : (ofL (rowL y)).size = (rowL y).length := ofL_size _
   have hsc : Lib.strCells (ofL (rowL y)) = Lib.byteCells (rowL y) := rfl
   have HC := Aside0.mk hcall
   have HT := Aside0.mk htk
   have HL := Aside0.mk (And.intro hlen (And.intro hwl hsz))
   have HSC := Aside0.mk hsc
   clear hrow htk hlen hwl hcall hsz hsc hlt'
   generalize ofL (rowL y) = s at HC HL HSC
   generalize y.length = ylen at hx0 HC
   go_wp2_with (go_at_call 78; refine HC.out.mono ?_; rintro e w2 ⟨rfl, hb2⟩; have HB2 := Aside0.mk (below_step HB.out hb2); have HI2 := Aside0.mk (builder_below HI.out hb2); have HS2 := Aside0.mk (Nat.le_trans HBS.out hb2.size); clear hb2)
   go_at_call 77
   refine (builder_write _ _ _ _ _ HI2.out (by rw [Lib.byteCells_length]; have := HL.out; omega) HS2.out).mono ?_
   rintro e w3 ⟨rfl, hi3, hb3⟩
   have HB3 := Aside0.mk (HB2.out.trans (hb3.mono HW1.out))
   have HS3 := Aside0.mk hb3.size
   have HI3 := Aside0.mk hi3
   clear hi3 hb3
   go_wp2_with (go_at_call 79; refine (builder_byte _ _ _ _ _ HI3.out (by rw [List.length_append, Lib.byteCells_length, Lib.strCells_length]; have := HL.out; omega) (Nat.le_trans HS2.out HS3.out)).mono ?_; rintro e w4 ⟨rfl, hi4, hb4⟩; have HB4 := Aside0.mk (HB3.out.trans (hb4.mono HW1.out)); have HS4 := Aside0.mk hb4.size; have HI4 := Aside0.mk hi4; clear hi4 hb4)
   go_roundg (n - (kk + 1))
   case measure => omega
   case rel =>
    refine ⟨kk + 1, by omega, by omega, by go_num, HB4, ⟨?_⟩, ⟨Nat.le_trans HS2.out (Nat.le_trans HS3.out HS4.out)⟩⟩
    rw [HT.out, Lib.byteCells_append, Lib.byteCells_append, ← HSC.out, ← List.append_assoc]
    exact HI4.out
  ·have hltz : decide (kk < n) = false := by simpa using hlt
   have HI2 : Aside0 (Lib.IsBuilder 102 5 bb bb (Lib.byteCells (strR l0)) wr) := ⟨by
    have h9 := HI.out
    rw [List.take_of_length_le (by have := HN.out; omega)] at h9
    exact h9⟩
   have HLN := Aside0.mk (fun W (h9 : Lib.IsBuilder 102 5 bb bb (Lib.byteCells (strR l0)) W) => Tryz.Builder_Len _ _ _ W h9)
   rw [Lib.byteCells_length] at HLN
   have hbd : (strR l0).length ≤ 1000000 * 404003 := Nat.le_trans (strR_len l0 HS.out.2) (Nat.mul_le_mul_right _ (by have := HN.out; omega))
   clear hlt HI
   by_cases hz : (strR l0).length ≤ 20000
   ·have h := H.out
    rw [if_pos hz] at h
    simp only [Option.some.injEq, Prod.mk.injEq] at h
    obtain ⟨rfl, rfl⟩ := h
    have hz2 : ¬ (20000 : Int) < ((strR l0).length : Int) := by omega
    clear H
    generalize (strR l0).length = ln at HLN hbd hz hz2
    go_wp2_with (first
     | (go_at_call 80; refine (HLN.out _ HI2.out).mono ?_; rintro e w2 ⟨rfl, rfl⟩)
     | (go_at_call 81; refine (Tryz.Builder_String_any _ _ _ _ HI2.out HBS.out).mono ?_; rintro e w3 ⟨rfl, hb3⟩; have HB3 := Aside0.mk (HB.out.trans (hb3.mono HW1.out)); clear hb3))
    go_ret2
    exact ⟨rfl, HB3.out⟩
   ·have h := H.out
    rw [if_neg hz] at h
    simp only [Option.some.injEq, Prod.mk.injEq] at h
    obtain ⟨rfl, rfl⟩ := h
    have hz2 : (20000 : Int) < ((strR l0).length : Int) := by omega
    clear H
    generalize (strR l0).length = ln at HLN hbd hz hz2
    go_wp2_with (go_at_call 80; refine (HLN.out _ HI2.out).mono ?_; rintro e w2 ⟨rfl, rfl⟩)
    go_ret2
    exact ⟨rfl, HB.out⟩
end Go.Proofs.YtmhobbdedmjmnaaGreatDoor.Q
end
section
/- Each function reached is shown to return what the plain function beside it computes, wherever that is defined (written by a program of ours for this seat). -/
namespace Go.Proofs.YtmhobbdedmjmnaaGreatDoor.Q
open Go.RowKit Go.Proofs.YtmhobbdedmjmnaaGreatDoorW.PrintWords Go.Proofs.YtmhobbdedmjmnaaGreatDoorW.PrintLast Go.Proofs.YtmhobbdedmjmnaaGreatDoorW.PrintMore
attribute [local go_sem] max2_int min2_int max_two min_two max_three min_three max_four min_four   -- for this text's walks alone
set_option linter.unusedVariables false
set_option linter.unusedSimpArgs false
end Go.Proofs.YtmhobbdedmjmnaaGreatDoor.Q
end
section
/- Each function reached is shown to return what the plain function beside it computes, wherever that is defined (written by a program of ours for this seat). -/
namespace Go.Proofs.YtmhobbdedmjmnaaGreatDoor.Q
open Go.RowKit Go.Proofs.YtmhobbdedmjmnaaGreatDoorW.PrintWords Go.Proofs.YtmhobbdedmjmnaaGreatDoorW.PrintLast Go.Proofs.YtmhobbdedmjmnaaGreatDoorW.PrintMore
attribute [local go_sem] max2_int min2_int max_two min_two max_three min_three max_four min_four   -- for this text's walks alone
set_option linter.unusedVariables false
set_option linter.unusedSimpArgs false
end Go.Proofs.YtmhobbdedmjmnaaGreatDoor.Q
end
section
/- Each function reached is shown to return what the plain function beside it computes, wherever that is defined (written by a program of ours for this seat). -/
namespace Go.Proofs.YtmhobbdedmjmnaaGreatDoor.Q
open Go.RowKit Go.Proofs.YtmhobbdedmjmnaaGreatDoorW.PrintWords Go.Proofs.YtmhobbdedmjmnaaGreatDoorW.PrintLast Go.Proofs.YtmhobbdedmjmnaaGreatDoorW.PrintMore
attribute [local go_sem] max2_int min2_int max_two min_two max_three min_three max_four min_four   -- for this text's walks alone
set_option linter.unusedVariables false
set_option linter.unusedSimpArgs false
end Go.Proofs.YtmhobbdedmjmnaaGreatDoor.Q
end
section
/- Each function reached is shown to return what the plain function beside it computes, wherever that is defined (written by a program of ours for this seat). -/
namespace Go.Proofs.YtmhobbdedmjmnaaGreatDoor.Q
open Go.RowKit Go.Proofs.YtmhobbdedmjmnaaGreatDoorW.PrintWords Go.Proofs.YtmhobbdedmjmnaaGreatDoorW.PrintLast Go.Proofs.YtmhobbdedmjmnaaGreatDoorW.PrintMore
attribute [local go_sem] max2_int min2_int max_two min_two max_three min_three max_four min_four   -- for this text's walks alone
set_option linter.unusedVariables false
set_option linter.unusedSimpArgs false
end Go.Proofs.YtmhobbdedmjmnaaGreatDoor.Q
end
section
/- What the plain definitions on rows answer: rows ordered by keys, each once; no program in sight. -/
namespace Go.Proofs.YtmhobbdedmjmnaaGreatDoor
open Go.RowKit Go.Proofs.YtmhobbdedmjmnaaGreatDoor.Q Go.Proofs.YtmhobbdedmjmnaaGreatDoorW.PrintWords Go.Proofs.YtmhobbdedmjmnaaGreatDoorW.PrintLast Go.Proofs.YtmhobbdedmjmnaaGreatDoorW.PrintMore
/-- keys that name places of every row -/
def KeysIn (ks : List KK) (l : List (List V)) : Prop := ks.length ≤ 1000 ∧ ∀ k ∈ ks, ∀ r ∈ l, 0 ≤ k.f0 ∧ k.f0 < r.length
theorem RowsOk.sub {n m : Nat} {l r : List (List V)} (h : RowsOk n l) (hs : ∀ x ∈ r, x ∈ l) (hl : r.length ≤ m) : RowsOk m r := ⟨hl, fun x hx => h.2 x (hs x hx)⟩
theorem KeysIn.sub {ks : List KK} {l r : List (List V)} (h : KeysIn ks l) (hs : ∀ x ∈ r, x ∈ l) : KeysIn ks r := ⟨h.1, fun k hk x hx => h.2 k hk x (hs x hx)⟩
end Go.Proofs.YtmhobbdedmjmnaaGreatDoor
end
section
/- Each function reached is shown to return what the plain function beside it computes, wherever that is defined (written by a program of ours for this seat). -/
namespace Go.Proofs.YtmhobbdedmjmnaaGreatDoor.Q
open Go.RowKit Go.Proofs.YtmhobbdedmjmnaaGreatDoorW.PrintWords Go.Proofs.YtmhobbdedmjmnaaGreatDoorW.PrintLast Go.Proofs.YtmhobbdedmjmnaaGreatDoorW.PrintMore
attribute [local go_sem] max2_int min2_int max_two min_two max_three min_three max_four min_four   -- for this text's walks alone
set_option linter.unusedVariables false
set_option linter.unusedSimpArgs false
end Go.Proofs.YtmhobbdedmjmnaaGreatDoor.Q
end
section
/- Each function reached is shown to return what the plain function beside it computes, wherever that is defined (written by a program of ours for this seat). -/
namespace Go.Proofs.YtmhobbdedmjmnaaGreatDoor.Q
open Go.RowKit Go.Proofs.YtmhobbdedmjmnaaGreatDoorW.PrintWords Go.Proofs.YtmhobbdedmjmnaaGreatDoorW.PrintLast Go.Proofs.YtmhobbdedmjmnaaGreatDoorW.PrintMore
attribute [local go_sem] max2_int min2_int max_two min_two max_three min_three max_four min_four   -- for this text's walks alone
set_option linter.unusedVariables false
set_option linter.unusedSimpArgs false
end Go.Proofs.YtmhobbdedmjmnaaGreatDoor.Q
end
section
/- What the plain definitions on rows answer: in both lists, and what is left of one; no program in sight. -/
namespace Go.Proofs.YtmhobbdedmjmnaaGreatDoor
open Go.RowKit Go.Proofs.YtmhobbdedmjmnaaGreatDoor.Q Go.Proofs.YtmhobbdedmjmnaaGreatDoorW.PrintWords Go.Proofs.YtmhobbdedmjmnaaGreatDoorW.PrintLast Go.Proofs.YtmhobbdedmjmnaaGreatDoorW.PrintMore
/-- how often a row is in both; how often it is left -/
def nBoth (a b : List (List V)) (all : Bool) (x : List V) : Nat := if all = true then min (cnt a x) (cnt b x) else min (min (cnt a x) (cnt b x)) 1
def nMinus (a b : List (List V)) (all : Bool) (x : List V) : Nat := if all = true then cnt a x - cnt b x else if cnt b x = 0 then 1 else 0
theorem okRR_of {n : Nat} {a : List (List V)} (ha : RowsOk n a) (hn : n ≤ 100000) (h : wrongR a = false) : okRR a = true := by
  refine okRR_mk (by have := ha.1; omega) fun r hr => okRow_mk (by have := (ha.2 r hr).1; omega) fun v hv => ?_
  show (isB v.f0 v.f1 v.f2 && inI64 v.f1) = true
  rw [((ha.2 r hr).2 v hv).2, Bool.and_true]
  unfold wrongR at h
  have h1 := List.any_eq_false.1 h r hr
  have h2 := List.any_eq_false.1 (Bool.eq_false_iff.2 h1) v hv
  simpa [isV] using h2
end Go.Proofs.YtmhobbdedmjmnaaGreatDoor
end
section
/- What the arguments of the laws on rows are, cut short; what is wrong with them; in plain words. -/
namespace Go.Proofs.YtmhobbdedmjmnaaGreatDoor
open Go.RowKit Go.Proofs.YtmhobbdedmjmnaaGreatDoor.Q Go.Proofs.YtmhobbdedmjmnaaGreatDoorW.PrintWords Go.Proofs.YtmhobbdedmjmnaaGreatDoorW.PrintLast Go.Proofs.YtmhobbdedmjmnaaGreatDoorW.PrintMore
/-- a row, rows that come in -/
def argRow (x : List V) : Prop := x.length * 32 ≤ 140737488351232 ∧ x.length ≤ maxLen ∧ ∀ xx ∈ x, (Lit.int .i64 xx.f0).wf = true ∧ (Lit.int .i64 xx.f1).wf = true ∧ xx.f2.size ≤ 140737488351232
def argRows (l : List (List V)) : Prop := l.length * 24 ≤ 140737488351232 ∧ l.length ≤ maxLen ∧ ∀ x ∈ l, argRow x
theorem RowsOk.grow {n m : Nat} {l : List (List V)} (h : RowsOk n l) (hn : n ≤ m) : RowsOk m l := h.sub (fun _ h => h) (Nat.le_trans h.1 hn)
theorem okR_of {n : Nat} {a : List (List V)} (ha : RowsOk n a) (hn : n ≤ 100000) : okR a = true := okR_mk (by have := ha.1; omega) fun r hr => by have := (ha.2 r hr).1; omega
end Go.Proofs.YtmhobbdedmjmnaaGreatDoor
end
section
/- Each function reached is shown to return what the plain function beside it computes, wherever that is defined (written by a program of ours for this seat). -/
namespace Go.Proofs.YtmhobbdedmjmnaaGreatDoor.Q
open Go.RowKit Go.Proofs.YtmhobbdedmjmnaaGreatDoorW.PrintWords Go.Proofs.YtmhobbdedmjmnaaGreatDoorW.PrintLast Go.Proofs.YtmhobbdedmjmnaaGreatDoorW.PrintMore
attribute [local go_sem] max2_int min2_int max_two min_two max_three min_three max_four min_four   -- for this text's walks alone
set_option linter.unusedVariables false
set_option linter.unusedSimpArgs false
/-! ### rows_Compare: function 27 -/
def rows_Sorted.f (l0 : List (List V)) : Option (List (List V)) := if okR l0 = true then some (canR l0) else none
set_option maxHeartbeats 1000000 in
theorem rows_Sorted.calls (A0 : Option Addr) (c0 : Nat) (l0 : List (List V)) (r : List (List V)) (w : World) (hr0 : Kd.C (Kd.slice 61 k61) w A0 l0.length l0) (hc0 : l0.length ≤ c0) (h : rows_Sorted.f l0 = some r) :
    Calls Tryz.prog 64 #[.slice A0 l0.length c0] w fun e w' => ∃ v0_ : Value, e = .returned (v0_) ∧ Kd.S (Kd.slice 61 k61) 40 w' w.heap.size (fun _ => True) v0_ r ∧ Below w.heap.size w w' := by
  unfold rows_Sorted.f at h
  by_cases hs : okR l0 = true
  case neg => rw [if_neg hs] at h; cases h
  rw [if_pos hs] at h
  obtain rfl := Option.some.inj h
  have HC := Aside0.mk (rows_Copy_s.calls A0 c0 l0 l0 w hr0 hc0 (by unfold rows_Copy_s.f; rw [if_pos hs]))
  have HS := Aside0.mk hs
  clear hr0 hc0 hs h
  generalize l0.length = n at HC ⊢
  go_enter Tryz.func64, Tryz.ntmps64
  go_wp2_with (first
    | (go_at_call 59; refine HC.out.mono ?_; rintro e w1 ⟨v1, rfl, hv1, hb1⟩; have HV1 := Aside0.mk hv1; have HB1 := Aside0.mk hb1; clear hv1 hb1)
    | (go_at_call 60; refine (sortR_can _ _ _ _ _ HV1.out HS.out).mono ?_; rintro e w2 ⟨rfl, hv2, _, hb2⟩; have HV2 := Aside0.mk hv2; have HB2 := Aside0.mk (hb2 w.heap.size w (Nat.le_refl _) HB1.out HB1.out.size); clear hv2 hb2))
  go_ret
  exact ⟨_, rfl, HV2.out, HB2.out⟩
def rows_Canonical.f (l0 : List (List V)) : Option (List (List V) × Int) := if smallE [l0] = 0 then (if okR l0 = true then some (canR l0, 0) else none) else some ([], smallE [l0])
set_option maxHeartbeats 2000000 in
theorem rows_Canonical.calls (A0 : Option Addr) (c0 : Nat) (l0 : List (List V)) (r1 : List (List V)) (r2 : Int) (w : World) (hr0 : Kd.C (Kd.slice 61 k61) w A0 l0.length l0) (hc0 : l0.length ≤ c0) (h : rows_Canonical.f l0 = some (r1, r2)) :
  Calls Tryz.prog 28 #[.slice A0 l0.length c0] w fun e w' => ∃ v0_ : Value, e = .returned (.tuple #[v0_, .int .i64 r2]) ∧ Kd.S (Kd.slice 61 k61) 40 w' w.heap.size (fun _ => True) v0_ r1 ∧ Below w.heap.size w w' := by
 unfold rows_Canonical.f at h
 have HS := Aside0.mk (fun W hb => small_one A0 c0 l0 w W hr0 hc0 hb)
 by_cases hs : smallE [l0] = 0
 ·rw [if_pos hs] at h
  by_cases hk : okR l0 = true
  case neg => rw [if_neg hk] at h; cases h
  rw [if_pos hk] at h
  simp only [Option.some.injEq, Prod.mk.injEq] at h
  obtain ⟨rfl, rfl⟩ := h
  rw [hs] at HS
  have HI := Aside0.mk (fun W (hb : Below w.heap.size w W) => rows_Sorted.calls A0 c0 l0 (canR l0) W (Kd.C_below hr0 hb) hc0 (by unfold rows_Sorted.f; rw [if_pos hk]))
  clear hr0 hc0 hs hk
  generalize canR l0 = res at HI ⊢
  generalize l0.length = n0 at HS HI ⊢
  go_enter Tryz.func28, Tryz.ntmps28
  go_wp2_with (first
   | (go_at_call 52; refine (HS.out _ (Below.refl _ _)).mono ?_; rintro e w1 ⟨rfl, hb1⟩; have HB1 := Aside0.mk hb1; clear hb1)
   | (go_at_call 64; refine (HI.out _ HB1.out).mono ?_; rintro e w2 ⟨v2, rfl, hv2, hb2⟩; have HV2 := Aside0.mk (Kd.S_lower hv2 HB1.out.size); have HB2 := Aside0.mk (below_step HB1.out hb2); clear hv2 hb2))
  go_ret2
  exact ⟨_, rfl, HV2.out, HB2.out⟩
 ·rw [if_neg hs] at h
  simp only [Option.some.injEq, Prod.mk.injEq] at h
  obtain ⟨rfl, rfl⟩ := h
  have hs2 : (smallE [l0] != 0) = true := by simpa using hs
  clear hr0 hc0 hs
  generalize smallE [l0] = x at HS hs2 ⊢
  generalize l0.length = n0 at HS ⊢
  go_enter Tryz.func28, Tryz.ntmps28
  go_wp2_with (go_at_call 52; refine (HS.out _ (Below.refl _ _)).mono ?_; rintro e w1 ⟨rfl, hb1⟩)
  go_ret2
  exact ⟨_, rfl, Kd.S_nil _ _ _ _ _, hb1⟩
end Go.Proofs.YtmhobbdedmjmnaaGreatDoor.Q
end
section
/- Each function reached is shown to return what the plain function beside it computes, wherever that is defined (written by a program of ours for this seat). -/
namespace Go.Proofs.YtmhobbdedmjmnaaGreatDoor.Q
open Go.RowKit Go.Proofs.YtmhobbdedmjmnaaGreatDoorW.PrintWords Go.Proofs.YtmhobbdedmjmnaaGreatDoorW.PrintLast Go.Proofs.YtmhobbdedmjmnaaGreatDoorW.PrintMore
attribute [local go_sem] max2_int min2_int max_two min_two max_three min_three max_four min_four   -- for this text's walks alone
set_option linter.unusedVariables false
set_option linter.unusedSimpArgs false
theorem eqA61 (d : Nat) (w : World) (x0 y0 : Int) (x1 y1 : Int) (x2 y2 : ByteArray) :
  (Op.equalIn (d + 2) 61 (.agg #[.int .i64 x0, .int .i64 x1, .string x2]) (.agg #[.int .i64 y0, .int .i64 y1, .string y2])).run Tryz.prog w = .ok (x0 == y0 && (x1 == y1 && (x2.toList == y2.toList))) w := by
 refine eqA_of Tryz.underlying61 (by kernel_rfl) ?_
 refine eqf_cons (by rfl) (by go_simp; rfl) (by go_simp; rfl) (by go_simp) ?_
 refine eqf_cons (by rfl) (by go_simp; rfl) (by go_simp; rfl) (by go_simp) ?_
 exact eqf_last (by rfl) (by go_simp; rfl) (by go_simp; rfl) (by go_simp)
end Go.Proofs.YtmhobbdedmjmnaaGreatDoor.Q
end
section
/- Each function reached is shown to return what the plain function beside it computes, wherever that is defined (written by a program of ours for this seat). -/
namespace Go.Proofs.YtmhobbdedmjmnaaGreatDoor.Q
open Go.RowKit Go.Proofs.YtmhobbdedmjmnaaGreatDoorW.PrintWords Go.Proofs.YtmhobbdedmjmnaaGreatDoorW.PrintLast Go.Proofs.YtmhobbdedmjmnaaGreatDoorW.PrintMore
attribute [local go_sem] max2_int min2_int max_two min_two max_three min_three max_four min_four   -- for this text's walks alone
set_option linter.unusedVariables false
set_option linter.unusedSimpArgs false
attribute [local go_sem high] eqA61
def rows_Distinct.f (l0 : List (List V)) : Option (List (List V) × Int) := if smallE [l0] = 0 then (if okR l0 = true then some (oneR l0, 0) else none) else some ([], smallE [l0])
set_option maxHeartbeats 2000000 in
theorem rows_Distinct.calls (A0 : Option Addr) (c0 : Nat) (l0 : List (List V)) (r1 : List (List V)) (r2 : Int) (w : World) (hr0 : Kd.C (Kd.slice 61 k61) w A0 l0.length l0) (hc0 : l0.length ≤ c0) (h : rows_Distinct.f l0 = some (r1, r2)) :
    Calls Tryz.prog 40 #[.slice A0 l0.length c0] w fun e w' => ∃ v0_ : Value, e = .returned (.tuple #[v0_, .int .i64 r2]) ∧ Kd.S (Kd.slice 61 k61) 40 w' w.heap.size (fun _ => True) v0_ r1 ∧ Below w.heap.size w w' := by
  unfold rows_Distinct.f at h
  have HS := Aside0.mk (fun W hb => small_one A0 c0 l0 w W hr0 hc0 hb)
  by_cases hs : smallE [l0] = 0
  · rw [if_pos hs] at h
    by_cases hk : okR l0 = true
    case neg => rw [if_neg hk] at h; cases h
    rw [if_pos hk] at h
    simp only [Option.some.injEq, Prod.mk.injEq] at h
    obtain ⟨rfl, rfl⟩ := h
    rw [hs] at HS
    have HI := Aside0.mk (fun W (hb : Below w.heap.size w W) => rows_Once.calls A0 c0 l0 (oneR l0) W (Kd.C_below hr0 hb) hc0 (by unfold rows_Once.f; rw [if_pos hk]))
    clear hr0 hc0 hs hk
    generalize oneR l0 = res at HI ⊢
    generalize l0.length = n0 at HS HI ⊢
    go_enter Tryz.func40, Tryz.ntmps40
    go_wp2_with (first
      | (go_at_call 52; refine (HS.out _ (Below.refl _ _)).mono ?_; rintro e w1 ⟨rfl, hb1⟩; have HB1 := Aside0.mk hb1; clear hb1)
      | (go_at_call 74; refine (HI.out _ HB1.out).mono ?_; rintro e w2 ⟨v2, rfl, hv2, hb2⟩; have HV2 := Aside0.mk (Kd.S_lower hv2 HB1.out.size); have HB2 := Aside0.mk (below_step HB1.out hb2); clear hv2 hb2))
    go_ret2
    exact ⟨_, rfl, HV2.out, HB2.out⟩
  · rw [if_neg hs] at h
    simp only [Option.some.injEq, Prod.mk.injEq] at h
    obtain ⟨rfl, rfl⟩ := h
    have hs2 : (smallE [l0] != 0) = true := by simpa using hs
    clear hr0 hc0 hs
    generalize smallE [l0] = x at HS hs2 ⊢
    generalize l0.length = n0 at HS ⊢
    go_enter Tryz.func40, Tryz.ntmps40
    go_wp2_with (go_at_call 52; refine (HS.out _ (Below.refl _ _)).mono ?_; rintro e w1 ⟨rfl, hb1⟩)
    go_ret2
    exact ⟨_, rfl, Kd.S_nil _ _ _ _ _, hb1⟩
theorem row_cell {w : World} {A : Option Addr} {l : List (List V)} (h : Kd.C (Kd.slice 61 k61) w A l.length l) (k : Nat) (hk : k < l.length) :
  ∃ ad A1 c1, A = some ad ∧ w.cell? (ad.add k) = some (.slice A1 l[k].length c1) ∧ l[k].length ≤ c1 ∧ Kd.C k61 w A1 l[k].length l[k] := by
 obtain ⟨ad, e1, hcs⟩ := h.2.2 (by omega)
 obtain ⟨cs, hcs1, ⟨A1, c1, rfl, hle1, hC1⟩, hcs3⟩ := hcs k l[k] (List.getElem?_eq_getElem hk)
 refine ⟨ad, A1, c1, e1, ?_, hle1, hC1⟩
 have h9 := hcs3 0 _ rfl
 rw [show k * (Kd.slice 61 k61).sz + 0 = k from Nat.mul_one k] at h9
 exact h9
end Go.Proofs.YtmhobbdedmjmnaaGreatDoor.Q
end
section
/- Each function reached is shown to return what the plain function beside it computes, wherever that is defined (written by a program of ours for this seat). -/
namespace Go.Proofs.YtmhobbdedmjmnaaGreatDoor.Q
open Go.RowKit Go.Proofs.YtmhobbdedmjmnaaGreatDoorW.PrintWords Go.Proofs.YtmhobbdedmjmnaaGreatDoorW.PrintLast Go.Proofs.YtmhobbdedmjmnaaGreatDoorW.PrintMore
attribute [local go_sem] max2_int min2_int max_two min_two max_three min_three max_four min_four   -- for this text's walks alone
set_option linter.unusedVariables false
set_option linter.unusedSimpArgs false
end Go.Proofs.YtmhobbdedmjmnaaGreatDoor.Q
end
section
/- What the definition's Equal and Same answer of any two lists of rows; no program in sight. -/
namespace Go.Proofs.YtmhobbdedmjmnaaGreatDoor
open Go.RowKit Go.Proofs.YtmhobbdedmjmnaaGreatDoor.Q Go.Proofs.YtmhobbdedmjmnaaGreatDoorW.PrintWords Go.Proofs.YtmhobbdedmjmnaaGreatDoorW.PrintLast Go.Proofs.YtmhobbdedmjmnaaGreatDoorW.PrintMore
theorem dec_consP {α : Type} [DecidableEq α] (x y : α) (l r : List α) : decide (x :: l = y :: r) = (decide (x = y) && decide (l = r)) := by
  by_cases e : x = y
  · by_cases e2 : l = r
    · subst e e2; simp
    · simp [e, e2]
  · simp [e]
theorem refEqual2_loop (l m : List (List V)) (hl : RowsOk 100000 l) (hm : RowsOk 100000 m) (hlm : l.length = m.length) : ∀ (d i k : Nat), i + d = l.length → d + 300 < k →
    tacticianref02_Equal.l0 k l m (i : Int) = some (decide (l.drop i = m.drop i)) := by
  have hl1 := hl.1
  intro d
  induction d with
  | zero =>
    intro i k hi hk
    obtain ⟨k, rfl⟩ : ∃ m, k = m + 1 := ⟨k - 1, by omega⟩
    rw [tacticianref02_Equal.l0, if_neg (by omega), List.drop_of_length_le (by omega), List.drop_of_length_le (by omega)]
    rfl
  | succ d ih =>
    intro i k hi hk
    obtain ⟨k, rfl⟩ : ∃ m, k = m + 1 := ⟨k - 1, by omega⟩
    have h1 : i < l.length := by omega
    have h2 : i < m.length := by omega
    rw [tacticianref02_Equal.l0, if_pos (by omega), if_pos (by omega), if_pos (by omega), rdL_at l i h1, rdL_at m i h2, refCmp _ _ (hl.2 _ (List.getElem_mem h1)) (hm.2 _ (List.getElem_mem h2)) k (by omega), Option.bind_some, List.drop_eq_getElem_cons h1, List.drop_eq_getElem_cons h2, dec_consP]
    by_cases h : l[i] = m[i]
    · rw [if_pos ((cfR_zero _ _).2 h), decide_eq_true h, Bool.true_and, wrap_small (n := (i : Int) + 1) (by omega) (by omega), show ((i : Int) + 1) = ((i + 1 : Nat) : Int) by omega]
      exact ih (i + 1) k (by omega) (by omega)
    · rw [if_neg (fun e => h ((cfR_zero _ _).1 e)), decide_eq_false h, Bool.false_and]
theorem refEqual2 (l m : List (List V)) (hl : RowsOk 100000 l) (hm : RowsOk 100000 m) (k : Nat) (hk : 100301 ≤ k) : tacticianref02_Equal.f k l m = some (decide (l = m)) := by
  have hl1 := hl.1
  unfold tacticianref02_Equal.f
  by_cases h : l.length = m.length
  · rw [if_pos (by omega)]
    exact refEqual2_loop l m hl hm h l.length 0 k (by omega) (by omega)
  · rw [if_neg (by omega), decide_eq_false fun e => h (by rw [e])]
end Go.Proofs.YtmhobbdedmjmnaaGreatDoor
end
section
/- Each function reached is shown to return what the plain function beside it computes, wherever that is defined (written by a program of ours for this seat). -/
namespace Go.Proofs.YtmhobbdedmjmnaaGreatDoor.Q
open Go.RowKit Go.Proofs.YtmhobbdedmjmnaaGreatDoorW.PrintWords Go.Proofs.YtmhobbdedmjmnaaGreatDoorW.PrintLast Go.Proofs.YtmhobbdedmjmnaaGreatDoorW.PrintMore
attribute [local go_sem] max2_int min2_int max_two min_two max_three min_three max_four min_four   -- for this text's walks alone
set_option linter.unusedVariables false
set_option linter.unusedSimpArgs false
def tacticianref01_Null.f  : Option (Int × Int × ByteArray) := some (0, 0, (⟨#[]⟩ : ByteArray))
set_option maxHeartbeats 8000000 in
set_option maxRecDepth 100000 in
theorem tacticianref01_Null.calls  (r1 : Int) (r2 : Int) (r3 : ByteArray) (w : World) (h : tacticianref01_Null.f  = some (r1, r2, r3)) :
    Calls Tryz.prog 141 #[] w fun e w' => e = .returned (.agg #[.int .i64 r1, .int .i64 r2, .string r3]) ∧ Below w.heap.size w w' := by
  have hu61 := Tryz.underlying61
  have HB := Aside0.mk (Below.refl w.heap.size w)
  have H : (some (0, 0, (⟨#[]⟩ : ByteArray))) = some (r1, r2, r3) := h
  clear h
  simp only [Option.some.injEq, Prod.mk.injEq] at H
  obtain ⟨rfl, rfl, rfl⟩ := H
  go_enter Tryz.func141, Tryz.ntmps141
  go_wp2_with (first | ((with_reducible refine gate_dst (N := 0) rfl ?_); refine box_event ?hg (N := 0) ?hd (cs := #[.int .i64 0, .int .i64 0, .string (⟨#[]⟩ : ByteArray)]) (t := 61) ?hr ?_; (case hd => rfl); (case hg => rfl); (case hr => first | (go_simp; done) | (go_simp; rfl)); intro gb527 hg w1 hbox hb; have n0_ := Aside0.mk (below_step (by repeat (first | (with_reducible first | exact HB.out | apply yA | apply yN | apply yD) | exact HB.out)) hb); have n1_ := Aside0.mk (hbox); have n2_ := Aside0.mk ((by rw [hg]; exact (below_size (by repeat (first | (with_reducible first | exact HB.out | apply yA | apply yN | apply yD) | exact HB.out))) : w.heap.size ≤ gb527)); have n3_ := Aside0.mk ((by rw [hg]; exact (below_size (by repeat (first | (with_reducible first | exact HB.out | apply yA | apply yN | apply yD) | exact HB.out))) : w.heap.size ≤ gb527)); clear HB; have HB := n0_; have BK527 := n1_; have GW527 := n2_; have GE527 := n3_; clear n0_ n1_ n2_ n3_; clear hb hbox hg; have hcz2_0 : w1.cell? ⟨gb527, 0, none⟩ = some (.int .i64 0) := (blk_cell BK527.out 0).trans rfl; have hcz2_1 : w1.cell? ⟨gb527, 1, none⟩ = some (.int .i64 0) := (blk_cell BK527.out 1).trans rfl; have hcz2_2 : w1.cell? ⟨gb527, 2, none⟩ = some (.string (⟨#[]⟩ : ByteArray)) := (blk_cell BK527.out 2).trans rfl; have hfz2_0 := blk_frozen BK527.out 0; have hfz2_1 := blk_frozen BK527.out 1; have hfz2_2 := blk_frozen BK527.out 2))
  refine bodyPost_ret (results_cell_row rfl _ _ gb527 61 #[.int .i64 0, .int .i64 0, .string (⟨#[]⟩ : ByteArray)] (0, 0) _ rfl (by (with_reducible repeat (first | refine zN ?_ _ | refine zD ?_ | refine zA ?_ _)); refine blk_put (cs := #[.int .i64 0, .int .i64 0, .string (⟨#[]⟩ : ByteArray)]) ?_ 2 _ rfl; (with_reducible repeat (first | refine zN ?_ _ | refine zD ?_ | refine zA ?_ _)); refine blk_put (cs := #[.int .i64 0, .int .i64 0, .string (⟨#[]⟩ : ByteArray)]) ?_ 1 _ rfl; (with_reducible repeat (first | refine zN ?_ _ | refine zD ?_ | refine zA ?_ _)); refine blk_put (cs := #[.int .i64 0, .int .i64 0, .string (⟨#[]⟩ : ByteArray)]) ?_ 0 _ rfl; (with_reducible repeat (first | refine zN ?_ _ | refine zD ?_ | refine zA ?_ _)); exact BK527.out) Tryz.underlying61 rfl (by kernel_rfl)) rfl ?_
  exact ⟨by first | rfl | (simp [errW_none, errW_some] <;> rfl) | (simp [*, errW_none, errW_some] <;> rfl), by repeat (first | (with_reducible first | exact HB.out | apply yA | apply yN | apply yD | refine below_set ?_ GE527.out) | exact HB.out)⟩
def tacticianref01_Bool.f (a0 : Bool) : Option (Int × Int × ByteArray) := if a0 = true then (some (2, 1, (⟨#[]⟩ : ByteArray))) else (some (2, 0, (⟨#[]⟩ : ByteArray)))
set_option maxHeartbeats 8000000 in
set_option maxRecDepth 100000 in
theorem tacticianref01_Bool.calls (a0 : Bool) (r1 : Int) (r2 : Int) (r3 : ByteArray) (w : World) (h : tacticianref01_Bool.f a0 = some (r1, r2, r3)) :
    Calls Tryz.prog 142 #[.bool a0] w fun e w' => e = .returned (.agg #[.int .i64 r1, .int .i64 r2, .string r3]) ∧ Below w.heap.size w w' := by
  have hu61 := Tryz.underlying61
  have HB := Aside0.mk (Below.refl w.heap.size w)
  have H : (if a0 = true then (some (2, 1, (⟨#[]⟩ : ByteArray))) else (some (2, 0, (⟨#[]⟩ : ByteArray)))) = some (r1, r2, r3) := h
  clear h
  by_cases c2 : a0 = true
  · subst c2
    have H1 : (some (2, 1, (⟨#[]⟩ : ByteArray))) = some (r1, r2, r3) := by rw [if_pos rfl] at H; exact H
    clear H
    have H := H1
    clear H1
    simp only [Option.some.injEq, Prod.mk.injEq] at H
    obtain ⟨rfl, rfl, rfl⟩ := H
    go_enter Tryz.func142, Tryz.ntmps142
    go_wp2_with (first | ((with_reducible refine gate_dst (N := 2) rfl ?_); refine box_event ?hg (N := 2) ?hd (cs := #[.int .i64 0, .int .i64 0, .string (⟨#[]⟩ : ByteArray)]) (t := 61) ?hr ?_; (case hd => rfl); (case hg => rfl); (case hr => first | (go_simp; done) | (go_simp; rfl)); intro gb528 hg w3 hbox hb; have n0_ := Aside0.mk (below_step (by repeat (first | (with_reducible first | exact HB.out | apply yA | apply yN | apply yD) | exact HB.out)) hb); have n1_ := Aside0.mk (hbox); have n2_ := Aside0.mk ((by rw [hg]; exact (below_size (by repeat (first | (with_reducible first | exact HB.out | apply yA | apply yN | apply yD) | exact HB.out))) : w.heap.size ≤ gb528)); have n3_ := Aside0.mk ((by rw [hg]; exact (below_size (by repeat (first | (with_reducible first | exact HB.out | apply yA | apply yN | apply yD) | exact HB.out))) : w.heap.size ≤ gb528)); clear HB; have HB := n0_; have BK528 := n1_; have GW528 := n2_; have GE528 := n3_; clear n0_ n1_ n2_ n3_; clear hb hbox hg; have hcz4_0 : w3.cell? ⟨gb528, 0, none⟩ = some (.int .i64 0) := (blk_cell BK528.out 0).trans rfl; have hcz4_1 : w3.cell? ⟨gb528, 1, none⟩ = some (.int .i64 0) := (blk_cell BK528.out 1).trans rfl; have hcz4_2 : w3.cell? ⟨gb528, 2, none⟩ = some (.string (⟨#[]⟩ : ByteArray)) := (blk_cell BK528.out 2).trans rfl; have hfz4_0 := blk_frozen BK528.out 0; have hfz4_1 := blk_frozen BK528.out 1; have hfz4_2 := blk_frozen BK528.out 2))
    refine bodyPost_ret (results_cell_row rfl _ _ gb528 61 #[.int .i64 2, .int .i64 1, .string (⟨#[]⟩ : ByteArray)] (0, 0) _ rfl (by (with_reducible repeat (first | refine zN ?_ _ | refine zD ?_ | refine zA ?_ _)); refine blk_put (cs := #[.int .i64 2, .int .i64 1, .string (⟨#[]⟩ : ByteArray)]) ?_ 2 _ rfl; (with_reducible repeat (first | refine zN ?_ _ | refine zD ?_ | refine zA ?_ _)); refine blk_put (cs := #[.int .i64 2, .int .i64 0, .string (⟨#[]⟩ : ByteArray)]) ?_ 1 _ rfl; (with_reducible repeat (first | refine zN ?_ _ | refine zD ?_ | refine zA ?_ _)); refine blk_put (cs := #[.int .i64 0, .int .i64 0, .string (⟨#[]⟩ : ByteArray)]) ?_ 0 _ rfl; (with_reducible repeat (first | refine zN ?_ _ | refine zD ?_ | refine zA ?_ _)); exact BK528.out) Tryz.underlying61 rfl (by kernel_rfl)) rfl ?_
    exact ⟨by first | rfl | (simp [errW_none, errW_some] <;> rfl) | (simp [*, errW_none, errW_some] <;> rfl), by repeat (first | (with_reducible first | exact HB.out | apply yA | apply yN | apply yD | refine below_set ?_ GE528.out) | exact HB.out)⟩
  · replace c2 := Bool.eq_false_iff.mpr c2
    subst c2
    have H1 : (some (2, 0, (⟨#[]⟩ : ByteArray))) = some (r1, r2, r3) := by rw [if_neg (show ¬ (false = true) by decide)] at H; exact H
    clear H
    have H := H1
    clear H1
    simp only [Option.some.injEq, Prod.mk.injEq] at H
    obtain ⟨rfl, rfl, rfl⟩ := H
    go_enter Tryz.func142, Tryz.ntmps142
    go_wp2_with (first | ((with_reducible refine gate_dst (N := 2) rfl ?_); refine box_event ?hg (N := 2) ?hd (cs := #[.int .i64 0, .int .i64 0, .string (⟨#[]⟩ : ByteArray)]) (t := 61) ?hr ?_; (case hd => rfl); (case hg => rfl); (case hr => first | (go_simp; done) | (go_simp; rfl)); intro gb528 hg w5 hbox hb; have n0_ := Aside0.mk (below_step (by repeat (first | (with_reducible first | exact HB.out | apply yA | apply yN | apply yD) | exact HB.out)) hb); have n1_ := Aside0.mk (hbox); have n2_ := Aside0.mk ((by rw [hg]; exact (below_size (by repeat (first | (with_reducible first | exact HB.out | apply yA | apply yN | apply yD) | exact HB.out))) : w.heap.size ≤ gb528)); have n3_ := Aside0.mk ((by rw [hg]; exact (below_size (by repeat (first | (with_reducible first | exact HB.out | apply yA | apply yN | apply yD) | exact HB.out))) : w.heap.size ≤ gb528)); clear HB; have HB := n0_; have BK528 := n1_; have GW528 := n2_; have GE528 := n3_; clear n0_ n1_ n2_ n3_; clear hb hbox hg; have hcz6_0 : w5.cell? ⟨gb528, 0, none⟩ = some (.int .i64 0) := (blk_cell BK528.out 0).trans rfl; have hcz6_1 : w5.cell? ⟨gb528, 1, none⟩ = some (.int .i64 0) := (blk_cell BK528.out 1).trans rfl; have hcz6_2 : w5.cell? ⟨gb528, 2, none⟩ = some (.string (⟨#[]⟩ : ByteArray)) := (blk_cell BK528.out 2).trans rfl; have hfz6_0 := blk_frozen BK528.out 0; have hfz6_1 := blk_frozen BK528.out 1; have hfz6_2 := blk_frozen BK528.out 2))
    refine bodyPost_ret (results_cell_row rfl _ _ gb528 61 #[.int .i64 2, .int .i64 0, .string (⟨#[]⟩ : ByteArray)] (0, 0) _ rfl (by (with_reducible repeat (first | refine zN ?_ _ | refine zD ?_ | refine zA ?_ _)); refine blk_put (cs := #[.int .i64 2, .int .i64 0, .string (⟨#[]⟩ : ByteArray)]) ?_ 2 _ rfl; (with_reducible repeat (first | refine zN ?_ _ | refine zD ?_ | refine zA ?_ _)); refine blk_put (cs := #[.int .i64 2, .int .i64 0, .string (⟨#[]⟩ : ByteArray)]) ?_ 1 _ rfl; (with_reducible repeat (first | refine zN ?_ _ | refine zD ?_ | refine zA ?_ _)); refine blk_put (cs := #[.int .i64 0, .int .i64 0, .string (⟨#[]⟩ : ByteArray)]) ?_ 0 _ rfl; (with_reducible repeat (first | refine zN ?_ _ | refine zD ?_ | refine zA ?_ _)); exact BK528.out) Tryz.underlying61 rfl (by kernel_rfl)) rfl ?_
    exact ⟨by first | rfl | (simp [errW_none, errW_some] <;> rfl) | (simp [*, errW_none, errW_some] <;> rfl), by repeat (first | (with_reducible first | exact HB.out | apply yA | apply yN | apply yD | refine below_set ?_ GE528.out) | exact HB.out)⟩
def tacticianref01_Text.f (a0 : ByteArray) : Option (Int × Int × ByteArray) := some (3, 0, a0)
set_option maxHeartbeats 8000000 in
set_option maxRecDepth 100000 in
theorem tacticianref01_Text.calls (a0 : ByteArray) (r1 : Int) (r2 : Int) (r3 : ByteArray) (w : World) (h : tacticianref01_Text.f a0 = some (r1, r2, r3)) :
  Calls Tryz.prog 143 #[.string a0] w fun e w' => e = .returned (.agg #[.int .i64 r1, .int .i64 r2, .string r3]) ∧ Below w.heap.size w w' := by
 have hu61 := Tryz.underlying61
 have HB := Aside0.mk (Below.refl w.heap.size w)
 have H : (some (3, 0, a0)) = some (r1, r2, r3) := h
 clear h
 simp only [Option.some.injEq, Prod.mk.injEq] at H
 obtain ⟨rfl, rfl, rfl⟩ := H
 go_enter Tryz.func143, Tryz.ntmps143
 go_wp2_with (first | ((with_reducible refine gate_dst (N := 2) rfl ?_); refine box_event ?hg (N := 2) ?hd (cs := #[.int .i64 0, .int .i64 0, .string (⟨#[]⟩ : ByteArray)]) (t := 61) ?hr ?_; (case hd => rfl); (case hg => rfl); (case hr => first | (go_simp; done) | (go_simp; rfl)); intro gb529 hg w2 hbox hb; have n0_ := Aside0.mk (below_step (by repeat (first | (with_reducible first | exact HB.out | apply yA | apply yN | apply yD) | exact HB.out)) hb); have n1_ := Aside0.mk (hbox); have n2_ := Aside0.mk ((by rw [hg]; exact (below_size (by repeat (first | (with_reducible first | exact HB.out | apply yA | apply yN | apply yD) | exact HB.out))) : w.heap.size ≤ gb529)); have n3_ := Aside0.mk ((by rw [hg]; exact (below_size (by repeat (first | (with_reducible first | exact HB.out | apply yA | apply yN | apply yD) | exact HB.out))) : w.heap.size ≤ gb529)); clear HB; have HB := n0_; have BK529 := n1_; have GW529 := n2_; have GE529 := n3_; clear n0_ n1_ n2_ n3_; clear hb hbox hg; have hcz3_0 : w2.cell? ⟨gb529, 0, none⟩ = some (.int .i64 0) := (blk_cell BK529.out 0).trans rfl; have hcz3_1 : w2.cell? ⟨gb529, 1, none⟩ = some (.int .i64 0) := (blk_cell BK529.out 1).trans rfl; have hcz3_2 : w2.cell? ⟨gb529, 2, none⟩ = some (.string (⟨#[]⟩ : ByteArray)) := (blk_cell BK529.out 2).trans rfl; have hfz3_0 := blk_frozen BK529.out 0; have hfz3_1 := blk_frozen BK529.out 1; have hfz3_2 := blk_frozen BK529.out 2))
 refine bodyPost_ret (results_cell_row rfl _ _ gb529 61 #[.int .i64 3, .int .i64 0, .string a0] (0, 0) _ rfl (by (with_reducible repeat (first | refine zN ?_ _ | refine zD ?_ | refine zA ?_ _)); refine blk_put (cs := #[.int .i64 3, .int .i64 0, .string (⟨#[]⟩ : ByteArray)]) ?_ 2 _ rfl; (with_reducible repeat (first | refine zN ?_ _ | refine zD ?_ | refine zA ?_ _)); refine blk_put (cs := #[.int .i64 3, .int .i64 0, .string (⟨#[]⟩ : ByteArray)]) ?_ 1 _ rfl; (with_reducible repeat (first | refine zN ?_ _ | refine zD ?_ | refine zA ?_ _)); refine blk_put (cs := #[.int .i64 0, .int .i64 0, .string (⟨#[]⟩ : ByteArray)]) ?_ 0 _ rfl; (with_reducible repeat (first | refine zN ?_ _ | refine zD ?_ | refine zA ?_ _)); exact BK529.out) Tryz.underlying61 rfl (by kernel_rfl)) rfl ?_
 exact ⟨by first | rfl | (simp [errW_none, errW_some] <;> rfl) | (simp [*, errW_none, errW_some] <;> rfl), by repeat (first | (with_reducible first | exact HB.out | apply yA | apply yN | apply yD | refine below_set ?_ GE529.out) | exact HB.out)⟩
end Go.Proofs.YtmhobbdedmjmnaaGreatDoor.Q
end
section
/- Each function reached is shown to return what the plain function beside it computes, wherever that is defined (written by a program of ours for this seat). -/
namespace Go.Proofs.YtmhobbdedmjmnaaGreatDoor.Q
open Go.RowKit Go.Proofs.YtmhobbdedmjmnaaGreatDoorW.PrintWords Go.Proofs.YtmhobbdedmjmnaaGreatDoorW.PrintLast Go.Proofs.YtmhobbdedmjmnaaGreatDoorW.PrintMore
attribute [local go_sem] max2_int min2_int max_two min_two max_three min_three max_four min_four   -- for this text's walks alone
set_option linter.unusedVariables false
set_option linter.unusedSimpArgs false
mutual
def tacticianref01_TameAs.j0 : Nat → Bool → Int → Int → ByteArray → Int → Bool → Option (Int × Int × ByteArray)
  | 0, _, _, _, _, _, _ => none
  | k + 1, x20, x531000, x531001, x531002, x532000, x532001 => if x20 = true then ((tacticianref01_Null.f).bind fun bt533 => (some (bt533.1, bt533.2.1, bt533.2.2))) else (if x532000 = 2 then ((tacticianref01_Bool.f ((Int.tmod x531001 2) != 0)).bind fun bt536 => (some (bt536.1, bt536.2.1, bt536.2.2))) else (if x532000 = 3 then (tacticianref01_TameAs.l0 k (⟨#[]⟩ : ByteArray) 0 x531000 x531001 x531002) else (if (Int.tmod (IntKind.u64.wrap (x531001)) 16) = 15 then ((tacticianref01_Int.f x531001).bind fun bt545 => (some (bt545.1, bt545.2.1, bt545.2.2))) else ((tacticianref01_Int.f (wrap64 ((wrap64 (Int.tmod (IntKind.u64.wrap (x531001)) 7)) - 2))).bind fun bt548 => (some (bt548.1, bt548.2.1, bt548.2.2))))))
def tacticianref01_TameAs.l0 : Nat → ByteArray → Int → Int → Int → ByteArray → Option (Int × Int × ByteArray)
  | 0, _, _, _, _, _ => none
  | k + 1, x5, x6, x531000, x531001, x531002 => if x6 < (x531002.size : Int) then (if x6 < 3 then (if 0 ≤ x6 then (if 0 ≤ (Int.tmod (bt x531002 x6) 3) then (if (Int.tmod (bt x531002 x6) 3) ≤ (((Int.tmod (bt x531002 x6) 3) + 1) % 256) then (if (((Int.tmod (bt x531002 x6) 3) + 1) % 256) ≤ 3 then (if x5.size + ((⟨#[97, 98, 39]⟩ : ByteArray).extract ((Int.tmod (bt x531002 x6) 3) : Int).toNat ((((Int.tmod (bt x531002 x6) 3) + 1) % 256) : Int).toNat).size ≤ 9223372036854775807 then (tacticianref01_TameAs.l0 k (x5 ++ ((⟨#[97, 98, 39]⟩ : ByteArray).extract ((Int.tmod (bt x531002 x6) 3) : Int).toNat ((((Int.tmod (bt x531002 x6) 3) + 1) % 256) : Int).toNat)) (wrap64 (x6 + 1)) x531000 x531001 x531002) else (none)) else (none)) else (none)) else (none)) else (none)) else ((tacticianref01_Text.f x5).bind fun bt539 => (some (bt539.1, bt539.2.1, bt539.2.2)))) else ((tacticianref01_Text.f x5).bind fun bt542 => (some (bt542.1, bt542.2.1, bt542.2.2)))
end
def tacticianref01_TameAs.f (k : Nat) (a0_0 : Int) (a0_1 : Int) (a0_2 : ByteArray) (a1_0 : Int) (a1_1 : Bool) : Option (Int × Int × ByteArray) := if a1_1 = true then (if a0_0 = 0 then (tacticianref01_TameAs.j0 k true a0_0 a0_1 a0_2 a1_0 a1_1) else (tacticianref01_TameAs.j0 k ((Int.tmod (IntKind.u64.wrap (a0_1)) 5) == 4) a0_0 a0_1 a0_2 a1_0 a1_1)) else (tacticianref01_TameAs.j0 k false a0_0 a0_1 a0_2 a1_0 a1_1)
set_option maxHeartbeats 8000000 in
set_option maxRecDepth 100000 in
theorem tacticianref01_TameAs.calls (k : Nat) (a0_0 : Int) (a0_1 : Int) (a0_2 : ByteArray) (a1_0 : Int) (a1_1 : Bool) (r1 : Int) (r2 : Int) (r3 : ByteArray) (w : World) (h : tacticianref01_TameAs.f k a0_0 a0_1 a0_2 a1_0 a1_1 = some (r1, r2, r3)) :
  Calls Tryz.prog 112 #[.agg #[.int .i64 a0_0, .int .i64 a0_1, .string a0_2], .agg #[.int .i64 a1_0, .bool a1_1]] w fun e w' => e = .returned (.agg #[.int .i64 r1, .int .i64 r2, .string r3]) ∧ Below w.heap.size w w' := by
 have hu61 := Tryz.underlying61
 have hu88 := Tryz.underlying88
 have HB := Aside0.mk (Below.refl w.heap.size w)
 have H : (if a1_1 = true then (if a0_0 = 0 then (tacticianref01_TameAs.j0 k true a0_0 a0_1 a0_2 a1_0 a1_1) else (tacticianref01_TameAs.j0 k ((Int.tmod (IntKind.u64.wrap (a0_1)) 5) == 4) a0_0 a0_1 a0_2 a1_0 a1_1)) else (tacticianref01_TameAs.j0 k false a0_0 a0_1 a0_2 a1_0 a1_1)) = some (r1, r2, r3) := h
 clear h
 have HC3 := Aside0.mk H
 clear H
 go_enter Tryz.func112, Tryz.ntmps112
 go_upto_region 1 with (first | ((with_reducible refine gate_dst (N := 2) rfl ?_); refine box_event ?hg (N := 2) ?hd (cs := #[.int .i64 a0_0, .int .i64 a0_1, .string a0_2]) (t := 61) ?hr ?_; (case hd => rfl); (case hg => rfl); (case hr => first | (go_simp; done) | (go_simp; rfl)); intro gb530 hg w4 hbox hb; have n0_ := Aside0.mk (below_step (by repeat (first | (with_reducible first | exact HB.out | apply yA | apply yN | apply yD) | exact HB.out)) hb); have n1_ := Aside0.mk (hbox); have n2_ := Aside0.mk ((by rw [hg]; exact (below_size (by repeat (first | (with_reducible first | exact HB.out | apply yA | apply yN | apply yD) | exact HB.out))) : w.heap.size ≤ gb530)); have n3_ := Aside0.mk ((by rw [hg]; exact (below_size (by repeat (first | (with_reducible first | exact HB.out | apply yA | apply yN | apply yD) | exact HB.out))) : w.heap.size ≤ gb530)); clear HB; have HB := n0_; have BK530 := n1_; have GW530 := n2_; have GE530 := n3_; clear n0_ n1_ n2_ n3_; clear hb hbox hg) | ((with_reducible refine gate_dst (N := 3) rfl ?_); refine box_event ?hg (N := 3) ?hd (cs := #[.int .i64 a1_0, .bool a1_1]) (t := 88) ?hr ?_; (case hd => rfl); (case hg => rfl); (case hr => first | (go_simp; done) | (go_simp; rfl)); intro gb531 hg w5 hbox hb; have n0_ := Aside0.mk (blk_below (g := gb530) (o := .cells #[.int .i64 a0_0, .int .i64 a0_1, .string a0_2] 61 (0, 0)) (by (with_reducible repeat (first | refine zN ?_ _ | refine zD ?_ | refine zA ?_ _)); exact BK530.out) hb); have n1_ := Aside0.mk (below_step (by repeat (first | (with_reducible first | exact HB.out | apply yA | apply yN | apply yD | refine below_set ?_ GE530.out) | exact HB.out)) hb); have n2_ := Aside0.mk (hbox); have n3_ := Aside0.mk ((by rw [hg]; exact (below_size (by repeat (first | (with_reducible first | exact HB.out | apply yA | apply yN | apply yD | refine below_set ?_ GE530.out) | exact HB.out))) : w.heap.size ≤ gb531)); have n4_ := Aside0.mk ((by rw [hg]; exact (below_size (by repeat (first | (with_reducible first | exact HB.out | apply yA | apply yN | apply yD | refine below_set ?_ GE530.out) | exact HB.out))) : w.heap.size ≤ gb531)); have n5_ := Aside0.mk ((by rw [hg]; exact Nat.ne_of_lt (blk_lt (g := gb530) (o := .cells #[.int .i64 a0_0, .int .i64 a0_1, .string a0_2] 61 (0, 0)) (by (with_reducible repeat (first | refine zN ?_ _ | refine zD ?_ | refine zA ?_ _)); exact BK530.out)) : gb530 ≠ gb531)); have n6_ := Aside0.mk ((by rw [hg]; exact Nat.ne_of_gt (blk_lt (g := gb530) (o := .cells #[.int .i64 a0_0, .int .i64 a0_1, .string a0_2] 61 (0, 0)) (by (with_reducible repeat (first | refine zN ?_ _ | refine zD ?_ | refine zA ?_ _)); exact BK530.out)) : gb531 ≠ gb530)); clear BK530; clear HB; have BK530 := n0_; have HB := n1_; have BK531 := n2_; have GW531 := n3_; have GE531 := n4_; have NB530_531 := n5_; have NB531_530 := n6_; clear n0_ n1_ n2_ n3_ n4_ n5_ n6_; clear hb hbox hg) | ((with_reducible refine gate_dst (N := 4) rfl ?_); refine box_event ?hg (N := 4) ?hd (cs := #[.int .i64 0, .int .i64 0, .string (⟨#[]⟩ : ByteArray)]) (t := 61) ?hr ?_; (case hd => rfl); (case hg => rfl); (case hr => first | (go_simp; done) | (go_simp; rfl)); intro gb532 hg w6 hbox hb; have n0_ := Aside0.mk (blk_below (g := gb530) (o := .cells #[.int .i64 a0_0, .int .i64 a0_1, .string a0_2] 61 (0, 0)) (by (with_reducible repeat (first | refine zN ?_ _ | refine zD ?_ | refine zA ?_ _)); exact BK530.out) hb); have n1_ := Aside0.mk (blk_below (g := gb531) (o := .cells #[.int .i64 a1_0, .bool a1_1] 88 (0, 0)) (by (with_reducible repeat (first | refine zN ?_ _ | refine zD ?_ | refine zA ?_ _)); exact BK531.out) hb); have n2_ := Aside0.mk (below_step (by repeat (first | (with_reducible first | exact HB.out | apply yA | apply yN | apply yD | refine below_set ?_ GE530.out | refine below_set ?_ GE531.out) | exact HB.out)) hb); have n3_ := Aside0.mk (hbox); have n4_ := Aside0.mk ((by rw [hg]; exact (below_size (by repeat (first | (with_reducible first | exact HB.out | apply yA | apply yN | apply yD | refine below_set ?_ GE530.out | refine below_set ?_ GE531.out) | exact HB.out))) : w.heap.size ≤ gb532)); have n5_ := Aside0.mk ((by rw [hg]; exact (below_size (by repeat (first | (with_reducible first | exact HB.out | apply yA | apply yN | apply yD | refine below_set ?_ GE530.out | refine below_set ?_ GE531.out) | exact HB.out))) : w.heap.size ≤ gb532)); have n6_ := Aside0.mk ((by rw [hg]; exact Nat.ne_of_lt (blk_lt (g := gb530) (o := .cells #[.int .i64 a0_0, .int .i64 a0_1, .string a0_2] 61 (0, 0)) (by (with_reducible repeat (first | refine zN ?_ _ | refine zD ?_ | refine zA ?_ _)); exact BK530.out)) : gb530 ≠ gb532)); have n7_ := Aside0.mk ((by rw [hg]; exact Nat.ne_of_gt (blk_lt (g := gb530) (o := .cells #[.int .i64 a0_0, .int .i64 a0_1, .string a0_2] 61 (0, 0)) (by (with_reducible repeat (first | refine zN ?_ _ | refine zD ?_ | refine zA ?_ _)); exact BK530.out)) : gb532 ≠ gb530)); have n8_ := Aside0.mk ((by rw [hg]; exact Nat.ne_of_lt (blk_lt (g := gb531) (o := .cells #[.int .i64 a1_0, .bool a1_1] 88 (0, 0)) (by (with_reducible repeat (first | refine zN ?_ _ | refine zD ?_ | refine zA ?_ _)); exact BK531.out)) : gb531 ≠ gb532)); have n9_ := Aside0.mk ((by rw [hg]; exact Nat.ne_of_gt (blk_lt (g := gb531) (o := .cells #[.int .i64 a1_0, .bool a1_1] 88 (0, 0)) (by (with_reducible repeat (first | refine zN ?_ _ | refine zD ?_ | refine zA ?_ _)); exact BK531.out)) : gb532 ≠ gb531)); clear BK530; clear BK531; clear HB; have BK530 := n0_; have BK531 := n1_; have HB := n2_; have BK532 := n3_; have GW532 := n4_; have GE532 := n5_; have NB530_532 := n6_; have NB532_530 := n7_; have NB531_532 := n8_; have NB532_531 := n9_; clear n0_ n1_ n2_ n3_ n4_ n5_ n6_ n7_ n8_ n9_; clear hb hbox hg))
 repeat (go_quiet (first | ((with_reducible refine gate_dst (N := 2) rfl ?_); refine box_event ?hg (N := 2) ?hd (cs := #[.int .i64 a0_0, .int .i64 a0_1, .string a0_2]) (t := 61) ?hr ?_; (case hd => rfl); (case hg => rfl); (case hr => first | (go_simp; done) | (go_simp; rfl)); intro gb530 hg w4 hbox hb; have n0_ := Aside0.mk (below_step (by repeat (first | (with_reducible first | exact HB.out | apply yA | apply yN | apply yD) | exact HB.out)) hb); have n1_ := Aside0.mk (hbox); have n2_ := Aside0.mk ((by rw [hg]; exact (below_size (by repeat (first | (with_reducible first | exact HB.out | apply yA | apply yN | apply yD) | exact HB.out))) : w.heap.size ≤ gb530)); have n3_ := Aside0.mk ((by rw [hg]; exact (below_size (by repeat (first | (with_reducible first | exact HB.out | apply yA | apply yN | apply yD) | exact HB.out))) : w.heap.size ≤ gb530)); clear HB; have HB := n0_; have BK530 := n1_; have GW530 := n2_; have GE530 := n3_; clear n0_ n1_ n2_ n3_; clear hb hbox hg) | ((with_reducible refine gate_dst (N := 3) rfl ?_); refine box_event ?hg (N := 3) ?hd (cs := #[.int .i64 a1_0, .bool a1_1]) (t := 88) ?hr ?_; (case hd => rfl); (case hg => rfl); (case hr => first | (go_simp; done) | (go_simp; rfl)); intro gb531 hg w5 hbox hb; have n0_ := Aside0.mk (blk_below (g := gb530) (o := .cells #[.int .i64 a0_0, .int .i64 a0_1, .string a0_2] 61 (0, 0)) (by (with_reducible repeat (first | refine zN ?_ _ | refine zD ?_ | refine zA ?_ _)); exact BK530.out) hb); have n1_ := Aside0.mk (below_step (by repeat (first | (with_reducible first | exact HB.out | apply yA | apply yN | apply yD | refine below_set ?_ GE530.out) | exact HB.out)) hb); have n2_ := Aside0.mk (hbox); have n3_ := Aside0.mk ((by rw [hg]; exact (below_size (by repeat (first | (with_reducible first | exact HB.out | apply yA | apply yN | apply yD | refine below_set ?_ GE530.out) | exact HB.out))) : w.heap.size ≤ gb531)); have n4_ := Aside0.mk ((by rw [hg]; exact (below_size (by repeat (first | (with_reducible first | exact HB.out | apply yA | apply yN | apply yD | refine below_set ?_ GE530.out) | exact HB.out))) : w.heap.size ≤ gb531)); have n5_ := Aside0.mk ((by rw [hg]; exact Nat.ne_of_lt (blk_lt (g := gb530) (o := .cells #[.int .i64 a0_0, .int .i64 a0_1, .string a0_2] 61 (0, 0)) (by (with_reducible repeat (first | refine zN ?_ _ | refine zD ?_ | refine zA ?_ _)); exact BK530.out)) : gb530 ≠ gb531)); have n6_ := Aside0.mk ((by rw [hg]; exact Nat.ne_of_gt (blk_lt (g := gb530) (o := .cells #[.int .i64 a0_0, .int .i64 a0_1, .string a0_2] 61 (0, 0)) (by (with_reducible repeat (first | refine zN ?_ _ | refine zD ?_ | refine zA ?_ _)); exact BK530.out)) : gb531 ≠ gb530)); clear BK530; clear HB; have BK530 := n0_; have HB := n1_; have BK531 := n2_; have GW531 := n3_; have GE531 := n4_; have NB530_531 := n5_; have NB531_530 := n6_; clear n0_ n1_ n2_ n3_ n4_ n5_ n6_; clear hb hbox hg) | ((with_reducible refine gate_dst (N := 4) rfl ?_); refine box_event ?hg (N := 4) ?hd (cs := #[.int .i64 0, .int .i64 0, .string (⟨#[]⟩ : ByteArray)]) (t := 61) ?hr ?_; (case hd => rfl); (case hg => rfl); (case hr => first | (go_simp; done) | (go_simp; rfl)); intro gb532 hg w6 hbox hb; have n0_ := Aside0.mk (blk_below (g := gb530) (o := .cells #[.int .i64 a0_0, .int .i64 a0_1, .string a0_2] 61 (0, 0)) (by (with_reducible repeat (first | refine zN ?_ _ | refine zD ?_ | refine zA ?_ _)); exact BK530.out) hb); have n1_ := Aside0.mk (blk_below (g := gb531) (o := .cells #[.int .i64 a1_0, .bool a1_1] 88 (0, 0)) (by (with_reducible repeat (first | refine zN ?_ _ | refine zD ?_ | refine zA ?_ _)); exact BK531.out) hb); have n2_ := Aside0.mk (below_step (by repeat (first | (with_reducible first | exact HB.out | apply yA | apply yN | apply yD | refine below_set ?_ GE530.out | refine below_set ?_ GE531.out) | exact HB.out)) hb); have n3_ := Aside0.mk (hbox); have n4_ := Aside0.mk ((by rw [hg]; exact (below_size (by repeat (first | (with_reducible first | exact HB.out | apply yA | apply yN | apply yD | refine below_set ?_ GE530.out | refine below_set ?_ GE531.out) | exact HB.out))) : w.heap.size ≤ gb532)); have n5_ := Aside0.mk ((by rw [hg]; exact (below_size (by repeat (first | (with_reducible first | exact HB.out | apply yA | apply yN | apply yD | refine below_set ?_ GE530.out | refine below_set ?_ GE531.out) | exact HB.out))) : w.heap.size ≤ gb532)); have n6_ := Aside0.mk ((by rw [hg]; exact Nat.ne_of_lt (blk_lt (g := gb530) (o := .cells #[.int .i64 a0_0, .int .i64 a0_1, .string a0_2] 61 (0, 0)) (by (with_reducible repeat (first | refine zN ?_ _ | refine zD ?_ | refine zA ?_ _)); exact BK530.out)) : gb530 ≠ gb532)); have n7_ := Aside0.mk ((by rw [hg]; exact Nat.ne_of_gt (blk_lt (g := gb530) (o := .cells #[.int .i64 a0_0, .int .i64 a0_1, .string a0_2] 61 (0, 0)) (by (with_reducible repeat (first | refine zN ?_ _ | refine zD ?_ | refine zA ?_ _)); exact BK530.out)) : gb532 ≠ gb530)); have n8_ := Aside0.mk ((by rw [hg]; exact Nat.ne_of_lt (blk_lt (g := gb531) (o := .cells #[.int .i64 a1_0, .bool a1_1] 88 (0, 0)) (by (with_reducible repeat (first | refine zN ?_ _ | refine zD ?_ | refine zA ?_ _)); exact BK531.out)) : gb531 ≠ gb532)); have n9_ := Aside0.mk ((by rw [hg]; exact Nat.ne_of_gt (blk_lt (g := gb531) (o := .cells #[.int .i64 a1_0, .bool a1_1] 88 (0, 0)) (by (with_reducible repeat (first | refine zN ?_ _ | refine zD ?_ | refine zA ?_ _)); exact BK531.out)) : gb532 ≠ gb531)); clear BK530; clear BK531; clear HB; have BK530 := n0_; have BK531 := n1_; have HB := n2_; have BK532 := n3_; have GW532 := n4_; have GE532 := n5_; have NB530_532 := n6_; have NB532_530 := n7_; have NB531_532 := n8_; have NB532_531 := n9_; clear n0_ n1_ n2_ n3_ n4_ n5_ n6_ n7_ n8_ n9_; clear hb hbox hg)); go_upto_region 1 with (first | ((with_reducible refine gate_dst (N := 2) rfl ?_); refine box_event ?hg (N := 2) ?hd (cs := #[.int .i64 a0_0, .int .i64 a0_1, .string a0_2]) (t := 61) ?hr ?_; (case hd => rfl); (case hg => rfl); (case hr => first | (go_simp; done) | (go_simp; rfl)); intro gb530 hg w4 hbox hb; have n0_ := Aside0.mk (below_step (by repeat (first | (with_reducible first | exact HB.out | apply yA | apply yN | apply yD) | exact HB.out)) hb); have n1_ := Aside0.mk (hbox); have n2_ := Aside0.mk ((by rw [hg]; exact (below_size (by repeat (first | (with_reducible first | exact HB.out | apply yA | apply yN | apply yD) | exact HB.out))) : w.heap.size ≤ gb530)); have n3_ := Aside0.mk ((by rw [hg]; exact (below_size (by repeat (first | (with_reducible first | exact HB.out | apply yA | apply yN | apply yD) | exact HB.out))) : w.heap.size ≤ gb530)); clear HB; have HB := n0_; have BK530 := n1_; have GW530 := n2_; have GE530 := n3_; clear n0_ n1_ n2_ n3_; clear hb hbox hg) | ((with_reducible refine gate_dst (N := 3) rfl ?_); refine box_event ?hg (N := 3) ?hd (cs := #[.int .i64 a1_0, .bool a1_1]) (t := 88) ?hr ?_; (case hd => rfl); (case hg => rfl); (case hr => first | (go_simp; done) | (go_simp; rfl)); intro gb531 hg w5 hbox hb; have n0_ := Aside0.mk (blk_below (g := gb530) (o := .cells #[.int .i64 a0_0, .int .i64 a0_1, .string a0_2] 61 (0, 0)) (by (with_reducible repeat (first | refine zN ?_ _ | refine zD ?_ | refine zA ?_ _)); exact BK530.out) hb); have n1_ := Aside0.mk (below_step (by repeat (first | (with_reducible first | exact HB.out | apply yA | apply yN | apply yD | refine below_set ?_ GE530.out) | exact HB.out)) hb); have n2_ := Aside0.mk (hbox); have n3_ := Aside0.mk ((by rw [hg]; exact (below_size (by repeat (first | (with_reducible first | exact HB.out | apply yA | apply yN | apply yD | refine below_set ?_ GE530.out) | exact HB.out))) : w.heap.size ≤ gb531)); have n4_ := Aside0.mk ((by rw [hg]; exact (below_size (by repeat (first | (with_reducible first | exact HB.out | apply yA | apply yN | apply yD | refine below_set ?_ GE530.out) | exact HB.out))) : w.heap.size ≤ gb531)); have n5_ := Aside0.mk ((by rw [hg]; exact Nat.ne_of_lt (blk_lt (g := gb530) (o := .cells #[.int .i64 a0_0, .int .i64 a0_1, .string a0_2] 61 (0, 0)) (by (with_reducible repeat (first | refine zN ?_ _ | refine zD ?_ | refine zA ?_ _)); exact BK530.out)) : gb530 ≠ gb531)); have n6_ := Aside0.mk ((by rw [hg]; exact Nat.ne_of_gt (blk_lt (g := gb530) (o := .cells #[.int .i64 a0_0, .int .i64 a0_1, .string a0_2] 61 (0, 0)) (by (with_reducible repeat (first | refine zN ?_ _ | refine zD ?_ | refine zA ?_ _)); exact BK530.out)) : gb531 ≠ gb530)); clear BK530; clear HB; have BK530 := n0_; have HB := n1_; have BK531 := n2_; have GW531 := n3_; have GE531 := n4_; have NB530_531 := n5_; have NB531_530 := n6_; clear n0_ n1_ n2_ n3_ n4_ n5_ n6_; clear hb hbox hg) | ((with_reducible refine gate_dst (N := 4) rfl ?_); refine box_event ?hg (N := 4) ?hd (cs := #[.int .i64 0, .int .i64 0, .string (⟨#[]⟩ : ByteArray)]) (t := 61) ?hr ?_; (case hd => rfl); (case hg => rfl); (case hr => first | (go_simp; done) | (go_simp; rfl)); intro gb532 hg w6 hbox hb; have n0_ := Aside0.mk (blk_below (g := gb530) (o := .cells #[.int .i64 a0_0, .int .i64 a0_1, .string a0_2] 61 (0, 0)) (by (with_reducible repeat (first | refine zN ?_ _ | refine zD ?_ | refine zA ?_ _)); exact BK530.out) hb); have n1_ := Aside0.mk (blk_below (g := gb531) (o := .cells #[.int .i64 a1_0, .bool a1_1] 88 (0, 0)) (by (with_reducible repeat (first | refine zN ?_ _ | refine zD ?_ | refine zA ?_ _)); exact BK531.out) hb); have n2_ := Aside0.mk (below_step (by repeat (first | (with_reducible first | exact HB.out | apply yA | apply yN | apply yD | refine below_set ?_ GE530.out | refine below_set ?_ GE531.out) | exact HB.out)) hb); have n3_ := Aside0.mk (hbox); have n4_ := Aside0.mk ((by rw [hg]; exact (below_size (by repeat (first | (with_reducible first | exact HB.out | apply yA | apply yN | apply yD | refine below_set ?_ GE530.out | refine below_set ?_ GE531.out) | exact HB.out))) : w.heap.size ≤ gb532)); have n5_ := Aside0.mk ((by rw [hg]; exact (below_size (by repeat (first | (with_reducible first | exact HB.out | apply yA | apply yN | apply yD | refine below_set ?_ GE530.out | refine below_set ?_ GE531.out) | exact HB.out))) : w.heap.size ≤ gb532)); have n6_ := Aside0.mk ((by rw [hg]; exact Nat.ne_of_lt (blk_lt (g := gb530) (o := .cells #[.int .i64 a0_0, .int .i64 a0_1, .string a0_2] 61 (0, 0)) (by (with_reducible repeat (first | refine zN ?_ _ | refine zD ?_ | refine zA ?_ _)); exact BK530.out)) : gb530 ≠ gb532)); have n7_ := Aside0.mk ((by rw [hg]; exact Nat.ne_of_gt (blk_lt (g := gb530) (o := .cells #[.int .i64 a0_0, .int .i64 a0_1, .string a0_2] 61 (0, 0)) (by (with_reducible repeat (first | refine zN ?_ _ | refine zD ?_ | refine zA ?_ _)); exact BK530.out)) : gb532 ≠ gb530)); have n8_ := Aside0.mk ((by rw [hg]; exact Nat.ne_of_lt (blk_lt (g := gb531) (o := .cells #[.int .i64 a1_0, .bool a1_1] 88 (0, 0)) (by (with_reducible repeat (first | refine zN ?_ _ | refine zD ?_ | refine zA ?_ _)); exact BK531.out)) : gb531 ≠ gb532)); have n9_ := Aside0.mk ((by rw [hg]; exact Nat.ne_of_gt (blk_lt (g := gb531) (o := .cells #[.int .i64 a1_0, .bool a1_1] 88 (0, 0)) (by (with_reducible repeat (first | refine zN ?_ _ | refine zD ?_ | refine zA ?_ _)); exact BK531.out)) : gb532 ≠ gb531)); clear BK530; clear BK531; clear HB; have BK530 := n0_; have BK531 := n1_; have HB := n2_; have BK532 := n3_; have GW532 := n4_; have GE532 := n5_; have NB530_532 := n6_; have NB532_530 := n7_; have NB531_532 := n8_; have NB532_531 := n9_; clear n0_ n1_ n2_ n3_ n4_ n5_ n6_ n7_ n8_ n9_; clear hb hbox hg)))
 (try simp only [Act.put, List.setIfInBounds_toArray, List.set_cons_zero, List.set_cons_succ])
 go_cut [20] (fun v20 wc => ∃ (kq : Nat) (x20_2 : Bool), v20 = .bool x20_2 ∧ Aside0 (tacticianref01_TameAs.j0 kq x20_2 a0_0 a0_1 a0_2 a1_0 a1_1 = some (r1, r2, r3)) ∧ Aside0 (kq ≤ k) ∧ Aside0 (wc.heap[gb530]? = some (.cells #[.int .i64 a0_0, .int .i64 a0_1, .string a0_2] 61 (0, 0))) ∧ Aside0 (wc.heap[gb531]? = some (.cells #[.int .i64 a1_0, .bool a1_1] 88 (0, 0))) ∧ Aside0 (wc.heap[gb532]? = some (.cells #[.int .i64 0, .int .i64 0, .string (⟨#[]⟩ : ByteArray)] 61 (0, 0))) ∧ Aside0 (Below w.heap.size w wc))
 case first =>
  have H := HC3.out
  clear HC3
  by_cases c7 : a1_1 = true
  ·subst c7
   have H1 : (if a0_0 = 0 then (tacticianref01_TameAs.j0 k true a0_0 a0_1 a0_2 a1_0 true) else (tacticianref01_TameAs.j0 k ((Int.tmod (IntKind.u64.wrap (a0_1)) 5) == 4) a0_0 a0_1 a0_2 a1_0 true)) = some (r1, r2, r3) := by rw [if_pos rfl] at H; exact H
   clear H
   have H := H1
   clear H1
   by_cases c8 : a0_0 = 0
   ·rw [if_pos c8] at H
    have c8b0 : (a0_0 == 0) = true := beq_iff_eq.mpr c8
    have c8b1 : (a0_0 != 0) = false := bne_eq_false_iff_eq.mpr c8
    clear c8
    (first | rw [c8b0] | (simp only [i64_w, i32_w]; rw [c8b0]) | skip)
    have H' := Aside0.mk H
    clear H
    have hnb9 := NB531_530.out
    have hnc9 := NB530_531.out
    have hnb10 := NB531_532.out
    have hnc10 := NB532_531.out
    have hcz11_0 : w6.cell? ⟨gb531, 0, none⟩ = some (.int .i64 a1_0) := (blk_cell BK531.out 0).trans rfl
    have hcz11_1 : w6.cell? ⟨gb531, 1, none⟩ = some (.bool true) := (blk_cell BK531.out 1).trans rfl
    have hfz11_0 := blk_frozen BK531.out 0
    have hfz11_1 := blk_frozen BK531.out 1
    have hnb12 := NB530_532.out
    have hnc12 := NB532_530.out
    have hcz13_0 : w6.cell? ⟨gb530, 0, none⟩ = some (.int .i64 a0_0) := (blk_cell BK530.out 0).trans rfl
    have hcz13_1 : w6.cell? ⟨gb530, 1, none⟩ = some (.int .i64 a0_1) := (blk_cell BK530.out 1).trans rfl
    have hcz13_2 : w6.cell? ⟨gb530, 2, none⟩ = some (.string a0_2) := (blk_cell BK530.out 2).trans rfl
    have hfz13_0 := blk_frozen BK530.out 0
    have hfz13_1 := blk_frozen BK530.out 1
    have hfz13_2 := blk_frozen BK530.out 2
    go_wp2
    repeat (go_quiet (fail); try go_wp2)
    go_meet
    case rel => exact ⟨_, (true), (by first | rfl | (simp; done) | (simp [*]; done)), H', ⟨by first | omega | exact Nat.le_refl _⟩, ⟨by (with_reducible repeat (first | refine zN ?_ _ | refine zD ?_ | refine zA ?_ _)); exact BK530.out⟩, ⟨by (with_reducible repeat (first | refine zN ?_ _ | refine zD ?_ | refine zA ?_ _)); exact BK531.out⟩, ⟨by (with_reducible repeat (first | refine zN ?_ _ | refine zD ?_ | refine zA ?_ _)); exact BK532.out⟩, ⟨by repeat (first | (with_reducible first | exact HB.out | apply yA | apply yN | apply yD | refine below_set ?_ GE530.out | refine below_set ?_ GE531.out | refine below_set ?_ GE532.out) | exact HB.out)⟩⟩
   ·rw [if_neg c8] at H
    have c8b0 : (a0_0 == 0) = false := beq_eq_false_iff_ne.mpr c8
    have c8b1 : (a0_0 != 0) = true := bne_iff_ne.mpr c8
    (first | rw [c8b0] | (simp only [i64_w, i32_w]; rw [c8b0]) | skip)
    have H' := Aside0.mk H
    clear H
    have hnb14 := NB531_530.out
    have hnc14 := NB530_531.out
    have hnb15 := NB531_532.out
    have hnc15 := NB532_531.out
    have hcz16_0 : w6.cell? ⟨gb531, 0, none⟩ = some (.int .i64 a1_0) := (blk_cell BK531.out 0).trans rfl
    have hcz16_1 : w6.cell? ⟨gb531, 1, none⟩ = some (.bool true) := (blk_cell BK531.out 1).trans rfl
    have hfz16_0 := blk_frozen BK531.out 0
    have hfz16_1 := blk_frozen BK531.out 1
    have hnb17 := NB530_532.out
    have hnc17 := NB532_530.out
    have hcz18_0 : w6.cell? ⟨gb530, 0, none⟩ = some (.int .i64 a0_0) := (blk_cell BK530.out 0).trans rfl
    have hcz18_1 : w6.cell? ⟨gb530, 1, none⟩ = some (.int .i64 a0_1) := (blk_cell BK530.out 1).trans rfl
    have hcz18_2 : w6.cell? ⟨gb530, 2, none⟩ = some (.string a0_2) := (blk_cell BK530.out 2).trans rfl
    have hfz18_0 := blk_frozen BK530.out 0
    have hfz18_1 := blk_frozen BK530.out 1
    have hfz18_2 := blk_frozen BK530.out 2
    go_wp2
    repeat (go_quiet (fail); try go_wp2)
    go_meet
    case rel => exact ⟨_, (((Int.tmod (IntKind.u64.wrap (a0_1)) 5) == 4)), (by first | rfl | (simp; done) | (simp [*]; done)), H', ⟨by first | omega | exact Nat.le_refl _⟩, ⟨by (with_reducible repeat (first | refine zN ?_ _ | refine zD ?_ | refine zA ?_ _)); exact BK530.out⟩, ⟨by (with_reducible repeat (first | refine zN ?_ _ | refine zD ?_ | refine zA ?_ _)); exact BK531.out⟩, ⟨by (with_reducible repeat (first | refine zN ?_ _ | refine zD ?_ | refine zA ?_ _)); exact BK532.out⟩, ⟨by repeat (first | (with_reducible first | exact HB.out | apply yA | apply yN | apply yD | refine below_set ?_ GE530.out | refine below_set ?_ GE531.out | refine below_set ?_ GE532.out) | exact HB.out)⟩⟩
  ·replace c7 := Bool.eq_false_iff.mpr c7
   subst c7
   have H1 : (tacticianref01_TameAs.j0 k false a0_0 a0_1 a0_2 a1_0 false) = some (r1, r2, r3) := by rw [if_neg (show ¬ (false = true) by decide)] at H; exact H
   clear H
   have H := H1
   clear H1
   have H' := Aside0.mk H
   clear H
   have hnb19 := NB531_530.out
   have hnc19 := NB530_531.out
   have hnb20 := NB531_532.out
   have hnc20 := NB532_531.out
   have hcz21_0 : w6.cell? ⟨gb531, 0, none⟩ = some (.int .i64 a1_0) := (blk_cell BK531.out 0).trans rfl
   have hcz21_1 : w6.cell? ⟨gb531, 1, none⟩ = some (.bool false) := (blk_cell BK531.out 1).trans rfl
   have hfz21_0 := blk_frozen BK531.out 0
   have hfz21_1 := blk_frozen BK531.out 1
   go_wp2
   repeat (go_quiet (fail); try go_wp2)
   go_meet
   case rel => exact ⟨_, (false), (by first | rfl | (simp; done) | (simp [*]; done)), H', ⟨by first | omega | exact Nat.le_refl _⟩, ⟨by (with_reducible repeat (first | refine zN ?_ _ | refine zD ?_ | refine zA ?_ _)); exact BK530.out⟩, ⟨by (with_reducible repeat (first | refine zN ?_ _ | refine zD ?_ | refine zA ?_ _)); exact BK531.out⟩, ⟨by (with_reducible repeat (first | refine zN ?_ _ | refine zD ?_ | refine zA ?_ _)); exact BK532.out⟩, ⟨by repeat (first | (with_reducible first | exact HB.out | apply yA | apply yN | apply yD | refine below_set ?_ GE530.out | refine below_set ?_ GE531.out | refine below_set ?_ GE532.out) | exact HB.out)⟩⟩
 case rest =>
  clear HC3
  try clear c1
  try clear c2
  try clear p2
  try clear c7
  try clear c8
  try clear c8b0
  try clear c8b1
  try clear c9
  try clear c10
  try clear c11
  try clear c12
  try clear c14
  try clear c15
  try clear c17
  try clear c19
  try clear c20
  try clear hcz11_0
  try clear hcz11_1
  try clear hcz13_0
  try clear hcz13_1
  try clear hcz13_2
  try clear hcz16_0
  try clear hcz16_1
  try clear hcz18_0
  try clear hcz18_1
  try clear hcz18_2
  try clear hcz21_0
  try clear hcz21_1
  try clear hfz11_0
  try clear hfz11_1
  try clear hfz13_0
  try clear hfz13_1
  try clear hfz13_2
  try clear hfz16_0
  try clear hfz16_1
  try clear hfz18_0
  try clear hfz18_1
  try clear hfz18_2
  try clear hfz21_0
  try clear hfz21_1
  obtain ⟨kq, x20_2, rfl, HA, HJ2, BK530, BK531, BK532, HB⟩ := hcut
  cases kq with
  | zero => exact absurd HA.out (by simp [tacticianref01_TameAs.j0])
  | succ kj2 =>
   have H := HA.out
   clear HA
   simp only [tacticianref01_TameAs.j0] at H
   by_cases c22 : x20_2 = true
   ·subst c22
    have H1 : ((tacticianref01_Null.f).bind fun bt533 => (some (bt533.1, bt533.2.1, bt533.2.2))) = some (r1, r2, r3) := by rw [if_pos rfl] at H; exact H
    clear H
    have H := H1
    clear H1
    replace H := Option.bind_eq_some_iff.mp H
    obtain ⟨⟨t533, t534, t535⟩, A230, H⟩ := H
    replace H : (some (t533, t534, t535)) = some (r1, r2, r3) := H
    have A23 := Aside0.mk A230
    clear A230
    simp only [Option.some.injEq, Prod.mk.injEq] at H
    obtain ⟨rfl, rfl, rfl⟩ := H
    go_wp2_with (first | (go_at_call 141; (with_reducible refine (tacticianref01_Null.calls  t533 t534 t535 _ A23.out).mono ?_); rintro e w24 ⟨rfl, hb⟩; have n0_ := Aside0.mk (blk_below (g := gb530) (o := .cells #[.int .i64 a0_0, .int .i64 a0_1, .string a0_2] 61 (0, 0)) (by (with_reducible repeat (first | refine zN ?_ _ | refine zD ?_ | refine zA ?_ _)); exact BK530.out) hb); have n1_ := Aside0.mk (blk_below (g := gb531) (o := .cells #[.int .i64 a1_0, .bool a1_1] 88 (0, 0)) (by (with_reducible repeat (first | refine zN ?_ _ | refine zD ?_ | refine zA ?_ _)); exact BK531.out) hb); have n2_ := Aside0.mk (blk_below (g := gb532) (o := .cells #[.int .i64 0, .int .i64 0, .string (⟨#[]⟩ : ByteArray)] 61 (0, 0)) (by (with_reducible repeat (first | refine zN ?_ _ | refine zD ?_ | refine zA ?_ _)); exact BK532.out) hb); have n3_ := Aside0.mk (below_step (by repeat (first | (with_reducible first | exact HB.out | apply yA | apply yN | apply yD | refine below_set ?_ GE530.out | refine below_set ?_ GE531.out | refine below_set ?_ GE532.out) | exact HB.out)) hb); clear BK530; clear BK531; clear BK532; clear HB; have BK530 := n0_; have BK531 := n1_; have BK532 := n2_; have HB := n3_; clear n0_ n1_ n2_ n3_; (try clear hb); (try clear hb2); (try clear hk); (try clear hi); have hnb25 := NB532_530.out; have hnc25 := NB530_532.out; have hnb26 := NB532_531.out; have hnc26 := NB531_532.out; have hcz27_0 : w24.cell? ⟨gb532, 0, none⟩ = some (.int .i64 0) := (blk_cell BK532.out 0).trans rfl; have hcz27_1 : w24.cell? ⟨gb532, 1, none⟩ = some (.int .i64 0) := (blk_cell BK532.out 1).trans rfl; have hcz27_2 : w24.cell? ⟨gb532, 2, none⟩ = some (.string (⟨#[]⟩ : ByteArray)) := (blk_cell BK532.out 2).trans rfl; have hfz27_0 := blk_frozen BK532.out 0; have hfz27_1 := blk_frozen BK532.out 1; have hfz27_2 := blk_frozen BK532.out 2))
    repeat (go_quiet (first | (go_at_call 141; (with_reducible refine (tacticianref01_Null.calls  t533 t534 t535 _ A23.out).mono ?_); rintro e w24 ⟨rfl, hb⟩; have n0_ := Aside0.mk (blk_below (g := gb530) (o := .cells #[.int .i64 a0_0, .int .i64 a0_1, .string a0_2] 61 (0, 0)) (by (with_reducible repeat (first | refine zN ?_ _ | refine zD ?_ | refine zA ?_ _)); exact BK530.out) hb); have n1_ := Aside0.mk (blk_below (g := gb531) (o := .cells #[.int .i64 a1_0, .bool a1_1] 88 (0, 0)) (by (with_reducible repeat (first | refine zN ?_ _ | refine zD ?_ | refine zA ?_ _)); exact BK531.out) hb); have n2_ := Aside0.mk (blk_below (g := gb532) (o := .cells #[.int .i64 0, .int .i64 0, .string (⟨#[]⟩ : ByteArray)] 61 (0, 0)) (by (with_reducible repeat (first | refine zN ?_ _ | refine zD ?_ | refine zA ?_ _)); exact BK532.out) hb); have n3_ := Aside0.mk (below_step (by repeat (first | (with_reducible first | exact HB.out | apply yA | apply yN | apply yD | refine below_set ?_ GE530.out | refine below_set ?_ GE531.out | refine below_set ?_ GE532.out) | exact HB.out)) hb); clear BK530; clear BK531; clear BK532; clear HB; have BK530 := n0_; have BK531 := n1_; have BK532 := n2_; have HB := n3_; clear n0_ n1_ n2_ n3_; (try clear hb); (try clear hb2); (try clear hk); (try clear hi); have hnb25 := NB532_530.out; have hnc25 := NB530_532.out; have hnb26 := NB532_531.out; have hnc26 := NB531_532.out; have hcz27_0 : w24.cell? ⟨gb532, 0, none⟩ = some (.int .i64 0) := (blk_cell BK532.out 0).trans rfl; have hcz27_1 : w24.cell? ⟨gb532, 1, none⟩ = some (.int .i64 0) := (blk_cell BK532.out 1).trans rfl; have hcz27_2 : w24.cell? ⟨gb532, 2, none⟩ = some (.string (⟨#[]⟩ : ByteArray)) := (blk_cell BK532.out 2).trans rfl; have hfz27_0 := blk_frozen BK532.out 0; have hfz27_1 := blk_frozen BK532.out 1; have hfz27_2 := blk_frozen BK532.out 2)); try go_wp2_with (first | (go_at_call 141; (with_reducible refine (tacticianref01_Null.calls  t533 t534 t535 _ A23.out).mono ?_); rintro e w24 ⟨rfl, hb⟩; have n0_ := Aside0.mk (blk_below (g := gb530) (o := .cells #[.int .i64 a0_0, .int .i64 a0_1, .string a0_2] 61 (0, 0)) (by (with_reducible repeat (first | refine zN ?_ _ | refine zD ?_ | refine zA ?_ _)); exact BK530.out) hb); have n1_ := Aside0.mk (blk_below (g := gb531) (o := .cells #[.int .i64 a1_0, .bool a1_1] 88 (0, 0)) (by (with_reducible repeat (first | refine zN ?_ _ | refine zD ?_ | refine zA ?_ _)); exact BK531.out) hb); have n2_ := Aside0.mk (blk_below (g := gb532) (o := .cells #[.int .i64 0, .int .i64 0, .string (⟨#[]⟩ : ByteArray)] 61 (0, 0)) (by (with_reducible repeat (first | refine zN ?_ _ | refine zD ?_ | refine zA ?_ _)); exact BK532.out) hb); have n3_ := Aside0.mk (below_step (by repeat (first | (with_reducible first | exact HB.out | apply yA | apply yN | apply yD | refine below_set ?_ GE530.out | refine below_set ?_ GE531.out | refine below_set ?_ GE532.out) | exact HB.out)) hb); clear BK530; clear BK531; clear BK532; clear HB; have BK530 := n0_; have BK531 := n1_; have BK532 := n2_; have HB := n3_; clear n0_ n1_ n2_ n3_; (try clear hb); (try clear hb2); (try clear hk); (try clear hi); have hnb25 := NB532_530.out; have hnc25 := NB530_532.out; have hnb26 := NB532_531.out; have hnc26 := NB531_532.out; have hcz27_0 : w24.cell? ⟨gb532, 0, none⟩ = some (.int .i64 0) := (blk_cell BK532.out 0).trans rfl; have hcz27_1 : w24.cell? ⟨gb532, 1, none⟩ = some (.int .i64 0) := (blk_cell BK532.out 1).trans rfl; have hcz27_2 : w24.cell? ⟨gb532, 2, none⟩ = some (.string (⟨#[]⟩ : ByteArray)) := (blk_cell BK532.out 2).trans rfl; have hfz27_0 := blk_frozen BK532.out 0; have hfz27_1 := blk_frozen BK532.out 1; have hfz27_2 := blk_frozen BK532.out 2)))
    refine bodyPost_ret (results_cell_row rfl _ _ gb532 61 #[.int .i64 t533, .int .i64 t534, .string t535] (0, 0) _ rfl (by (with_reducible repeat (first | refine zN ?_ _ | refine zD ?_ | refine zA ?_ _)); refine blk_put (cs := #[.int .i64 t533, .int .i64 t534, .string (⟨#[]⟩ : ByteArray)]) ?_ 2 _ rfl; (with_reducible repeat (first | refine zN ?_ _ | refine zD ?_ | refine zA ?_ _)); refine blk_put (cs := #[.int .i64 t533, .int .i64 0, .string (⟨#[]⟩ : ByteArray)]) ?_ 1 _ rfl; (with_reducible repeat (first | refine zN ?_ _ | refine zD ?_ | refine zA ?_ _)); refine blk_put (cs := #[.int .i64 0, .int .i64 0, .string (⟨#[]⟩ : ByteArray)]) ?_ 0 _ rfl; (with_reducible repeat (first | refine zN ?_ _ | refine zD ?_ | refine zA ?_ _)); exact BK532.out) Tryz.underlying61 rfl (by kernel_rfl)) rfl ?_
    exact ⟨by first | rfl | (simp [errW_none, errW_some] <;> rfl) | (simp [*, errW_none, errW_some] <;> rfl), by repeat (first | (with_reducible first | exact HB.out | apply yA | apply yN | apply yD | refine below_set ?_ GE530.out | refine below_set ?_ GE531.out | refine below_set ?_ GE532.out) | exact HB.out)⟩
   ·replace c22 := Bool.eq_false_iff.mpr c22
    subst c22
    have H1 : (if a1_0 = 2 then ((tacticianref01_Bool.f ((Int.tmod a0_1 2) != 0)).bind fun bt536 => (some (bt536.1, bt536.2.1, bt536.2.2))) else (if a1_0 = 3 then (tacticianref01_TameAs.l0 kj2 (⟨#[]⟩ : ByteArray) 0 a0_0 a0_1 a0_2) else (if (Int.tmod (IntKind.u64.wrap (a0_1)) 16) = 15 then ((tacticianref01_Int.f a0_1).bind fun bt545 => (some (bt545.1, bt545.2.1, bt545.2.2))) else ((tacticianref01_Int.f (wrap64 ((wrap64 (Int.tmod (IntKind.u64.wrap (a0_1)) 7)) - 2))).bind fun bt548 => (some (bt548.1, bt548.2.1, bt548.2.2)))))) = some (r1, r2, r3) := by rw [if_neg (show ¬ (false = true) by decide)] at H; exact H
    clear H
    have H := H1
    clear H1
    by_cases c28 : a1_0 = 2
    ·rw [if_pos c28] at H
     have c28b0 : (a1_0 == 2) = true := beq_iff_eq.mpr c28
     have c28b1 : (a1_0 != 2) = false := bne_eq_false_iff_eq.mpr c28
     clear c28
     replace H := Option.bind_eq_some_iff.mp H
     obtain ⟨⟨t536, t537, t538⟩, A290, H⟩ := H
     replace H : (some (t536, t537, t538)) = some (r1, r2, r3) := H
     have A29 := Aside0.mk A290
     clear A290
     simp only [Option.some.injEq, Prod.mk.injEq] at H
     obtain ⟨rfl, rfl, rfl⟩ := H
     have hnb30 := NB531_530.out
     have hnc30 := NB530_531.out
     have hnb31 := NB531_532.out
     have hnc31 := NB532_531.out
     have hcz32_0 : wc.cell? ⟨gb531, 0, none⟩ = some (.int .i64 a1_0) := (blk_cell BK531.out 0).trans rfl
     have hcz32_1 : wc.cell? ⟨gb531, 1, none⟩ = some (.bool a1_1) := (blk_cell BK531.out 1).trans rfl
     have hfz32_0 := blk_frozen BK531.out 0
     have hfz32_1 := blk_frozen BK531.out 1
     have hnb33 := NB530_532.out
     have hnc33 := NB532_530.out
     have hcz34_0 : wc.cell? ⟨gb530, 0, none⟩ = some (.int .i64 a0_0) := (blk_cell BK530.out 0).trans rfl
     have hcz34_1 : wc.cell? ⟨gb530, 1, none⟩ = some (.int .i64 a0_1) := (blk_cell BK530.out 1).trans rfl
     have hcz34_2 : wc.cell? ⟨gb530, 2, none⟩ = some (.string a0_2) := (blk_cell BK530.out 2).trans rfl
     have hfz34_0 := blk_frozen BK530.out 0
     have hfz34_1 := blk_frozen BK530.out 1
     have hfz34_2 := blk_frozen BK530.out 2
     go_wp2_with (first | (go_at_call 142; (with_reducible refine (tacticianref01_Bool.calls ((Int.tmod a0_1 2) != 0) t536 t537 t538 _ A29.out).mono ?_); rintro e w35 ⟨rfl, hb⟩; have n0_ := Aside0.mk (blk_below (g := gb530) (o := .cells #[.int .i64 a0_0, .int .i64 a0_1, .string a0_2] 61 (0, 0)) (by (with_reducible repeat (first | refine zN ?_ _ | refine zD ?_ | refine zA ?_ _)); exact BK530.out) hb); have n1_ := Aside0.mk (blk_below (g := gb531) (o := .cells #[.int .i64 a1_0, .bool a1_1] 88 (0, 0)) (by (with_reducible repeat (first | refine zN ?_ _ | refine zD ?_ | refine zA ?_ _)); exact BK531.out) hb); have n2_ := Aside0.mk (blk_below (g := gb532) (o := .cells #[.int .i64 0, .int .i64 0, .string (⟨#[]⟩ : ByteArray)] 61 (0, 0)) (by (with_reducible repeat (first | refine zN ?_ _ | refine zD ?_ | refine zA ?_ _)); exact BK532.out) hb); have n3_ := Aside0.mk (below_step (by repeat (first | (with_reducible first | exact HB.out | apply yA | apply yN | apply yD | refine below_set ?_ GE530.out | refine below_set ?_ GE531.out | refine below_set ?_ GE532.out) | exact HB.out)) hb); clear BK530; clear BK531; clear BK532; clear HB; have BK530 := n0_; have BK531 := n1_; have BK532 := n2_; have HB := n3_; clear n0_ n1_ n2_ n3_; (try clear hb); (try clear hb2); (try clear hk); (try clear hi); have hcz36_0 : w35.cell? ⟨gb532, 0, none⟩ = some (.int .i64 0) := (blk_cell BK532.out 0).trans rfl; have hcz36_1 : w35.cell? ⟨gb532, 1, none⟩ = some (.int .i64 0) := (blk_cell BK532.out 1).trans rfl; have hcz36_2 : w35.cell? ⟨gb532, 2, none⟩ = some (.string (⟨#[]⟩ : ByteArray)) := (blk_cell BK532.out 2).trans rfl; have hfz36_0 := blk_frozen BK532.out 0; have hfz36_1 := blk_frozen BK532.out 1; have hfz36_2 := blk_frozen BK532.out 2))
     repeat (go_quiet (first | (go_at_call 142; (with_reducible refine (tacticianref01_Bool.calls ((Int.tmod a0_1 2) != 0) t536 t537 t538 _ A29.out).mono ?_); rintro e w35 ⟨rfl, hb⟩; have n0_ := Aside0.mk (blk_below (g := gb530) (o := .cells #[.int .i64 a0_0, .int .i64 a0_1, .string a0_2] 61 (0, 0)) (by (with_reducible repeat (first | refine zN ?_ _ | refine zD ?_ | refine zA ?_ _)); exact BK530.out) hb); have n1_ := Aside0.mk (blk_below (g := gb531) (o := .cells #[.int .i64 a1_0, .bool a1_1] 88 (0, 0)) (by (with_reducible repeat (first | refine zN ?_ _ | refine zD ?_ | refine zA ?_ _)); exact BK531.out) hb); have n2_ := Aside0.mk (blk_below (g := gb532) (o := .cells #[.int .i64 0, .int .i64 0, .string (⟨#[]⟩ : ByteArray)] 61 (0, 0)) (by (with_reducible repeat (first | refine zN ?_ _ | refine zD ?_ | refine zA ?_ _)); exact BK532.out) hb); have n3_ := Aside0.mk (below_step (by repeat (first | (with_reducible first | exact HB.out | apply yA | apply yN | apply yD | refine below_set ?_ GE530.out | refine below_set ?_ GE531.out | refine below_set ?_ GE532.out) | exact HB.out)) hb); clear BK530; clear BK531; clear BK532; clear HB; have BK530 := n0_; have BK531 := n1_; have BK532 := n2_; have HB := n3_; clear n0_ n1_ n2_ n3_; (try clear hb); (try clear hb2); (try clear hk); (try clear hi); have hcz36_0 : w35.cell? ⟨gb532, 0, none⟩ = some (.int .i64 0) := (blk_cell BK532.out 0).trans rfl; have hcz36_1 : w35.cell? ⟨gb532, 1, none⟩ = some (.int .i64 0) := (blk_cell BK532.out 1).trans rfl; have hcz36_2 : w35.cell? ⟨gb532, 2, none⟩ = some (.string (⟨#[]⟩ : ByteArray)) := (blk_cell BK532.out 2).trans rfl; have hfz36_0 := blk_frozen BK532.out 0; have hfz36_1 := blk_frozen BK532.out 1; have hfz36_2 := blk_frozen BK532.out 2)); try go_wp2_with (first | (go_at_call 142; (with_reducible refine (tacticianref01_Bool.calls ((Int.tmod a0_1 2) != 0) t536 t537 t538 _ A29.out).mono ?_); rintro e w35 ⟨rfl, hb⟩; have n0_ := Aside0.mk (blk_below (g := gb530) (o := .cells #[.int .i64 a0_0, .int .i64 a0_1, .string a0_2] 61 (0, 0)) (by (with_reducible repeat (first | refine zN ?_ _ | refine zD ?_ | refine zA ?_ _)); exact BK530.out) hb); have n1_ := Aside0.mk (blk_below (g := gb531) (o := .cells #[.int .i64 a1_0, .bool a1_1] 88 (0, 0)) (by (with_reducible repeat (first | refine zN ?_ _ | refine zD ?_ | refine zA ?_ _)); exact BK531.out) hb); have n2_ := Aside0.mk (blk_below (g := gb532) (o := .cells #[.int .i64 0, .int .i64 0, .string (⟨#[]⟩ : ByteArray)] 61 (0, 0)) (by (with_reducible repeat (first | refine zN ?_ _ | refine zD ?_ | refine zA ?_ _)); exact BK532.out) hb); have n3_ := Aside0.mk (below_step (by repeat (first | (with_reducible first | exact HB.out | apply yA | apply yN | apply yD | refine below_set ?_ GE530.out | refine below_set ?_ GE531.out | refine below_set ?_ GE532.out) | exact HB.out)) hb); clear BK530; clear BK531; clear BK532; clear HB; have BK530 := n0_; have BK531 := n1_; have BK532 := n2_; have HB := n3_; clear n0_ n1_ n2_ n3_; (try clear hb); (try clear hb2); (try clear hk); (try clear hi); have hcz36_0 : w35.cell? ⟨gb532, 0, none⟩ = some (.int .i64 0) := (blk_cell BK532.out 0).trans rfl; have hcz36_1 : w35.cell? ⟨gb532, 1, none⟩ = some (.int .i64 0) := (blk_cell BK532.out 1).trans rfl; have hcz36_2 : w35.cell? ⟨gb532, 2, none⟩ = some (.string (⟨#[]⟩ : ByteArray)) := (blk_cell BK532.out 2).trans rfl; have hfz36_0 := blk_frozen BK532.out 0; have hfz36_1 := blk_frozen BK532.out 1; have hfz36_2 := blk_frozen BK532.out 2)))
     refine bodyPost_ret (results_cell_row rfl _ _ gb532 61 #[.int .i64 t536, .int .i64 t537, .string t538] (0, 0) _ rfl (by (with_reducible repeat (first | refine zN ?_ _ | refine zD ?_ | refine zA ?_ _)); refine blk_put (cs := #[.int .i64 t536, .int .i64 t537, .string (⟨#[]⟩ : ByteArray)]) ?_ 2 _ rfl; (with_reducible repeat (first | refine zN ?_ _ | refine zD ?_ | refine zA ?_ _)); refine blk_put (cs := #[.int .i64 t536, .int .i64 0, .string (⟨#[]⟩ : ByteArray)]) ?_ 1 _ rfl; (with_reducible repeat (first | refine zN ?_ _ | refine zD ?_ | refine zA ?_ _)); refine blk_put (cs := #[.int .i64 0, .int .i64 0, .string (⟨#[]⟩ : ByteArray)]) ?_ 0 _ rfl; (with_reducible repeat (first | refine zN ?_ _ | refine zD ?_ | refine zA ?_ _)); exact BK532.out) Tryz.underlying61 rfl (by kernel_rfl)) rfl ?_
     exact ⟨by first | rfl | (simp [errW_none, errW_some] <;> rfl) | (simp [*, errW_none, errW_some] <;> rfl), by repeat (first | (with_reducible first | exact HB.out | apply yA | apply yN | apply yD | refine below_set ?_ GE530.out | refine below_set ?_ GE531.out | refine below_set ?_ GE532.out) | exact HB.out)⟩
    ·rw [if_neg c28] at H
     have c28b0 : (a1_0 == 2) = false := beq_eq_false_iff_ne.mpr c28
     have c28b1 : (a1_0 != 2) = true := bne_iff_ne.mpr c28
     by_cases c37 : a1_0 = 3
     ·rw [if_pos c37] at H
      have c37b0 : (a1_0 == 3) = true := beq_iff_eq.mpr c37
      have c37b1 : (a1_0 != 3) = false := bne_eq_false_iff_eq.mpr c37
      clear c37
      have H' := Aside0.mk H
      clear H
      have hnb38 := NB531_530.out
      have hnc38 := NB530_531.out
      have hnb39 := NB531_532.out
      have hnc39 := NB532_531.out
      have hcz40_0 : wc.cell? ⟨gb531, 0, none⟩ = some (.int .i64 a1_0) := (blk_cell BK531.out 0).trans rfl
      have hcz40_1 : wc.cell? ⟨gb531, 1, none⟩ = some (.bool a1_1) := (blk_cell BK531.out 1).trans rfl
      have hfz40_0 := blk_frozen BK531.out 0
      have hfz40_1 := blk_frozen BK531.out 1
      go_wp2
      repeat (go_quiet (fail); try go_wp2)
      go_loopg [5, 6] kj2 (fun kq v5 v6 w' => ∃ (x5_2 : ByteArray) (x6_2 : Int), v5 = .string x5_2 ∧ v6 = .int .i64 x6_2 ∧ Aside0 (tacticianref01_TameAs.l0 kq x5_2 x6_2 a0_0 a0_1 a0_2 = some (r1, r2, r3)) ∧ Aside0 (kq ≤ kj2) ∧ Aside0 (w'.heap[gb530]? = some (.cells #[.int .i64 a0_0, .int .i64 a0_1, .string a0_2] 61 (0, 0))) ∧ Aside0 (w'.heap[gb531]? = some (.cells #[.int .i64 a1_0, .bool a1_1] 88 (0, 0))) ∧ Aside0 (w'.heap[gb532]? = some (.cells #[.int .i64 0, .int .i64 0, .string (⟨#[]⟩ : ByteArray)] 61 (0, 0))) ∧ Aside0 (Below w.heap.size w w'))
      case atStart => exact ⟨((⟨#[]⟩ : ByteArray)), (0), (by first | rfl | (simp; done) | (simp [*]; done)), (by first | rfl | (simp; done) | (simp [*]; done)), H', ⟨Nat.le_refl _⟩, ⟨by (with_reducible repeat (first | refine zN ?_ _ | refine zD ?_ | refine zA ?_ _)); exact BK530.out⟩, ⟨by (with_reducible repeat (first | refine zN ?_ _ | refine zD ?_ | refine zA ?_ _)); exact BK531.out⟩, ⟨by (with_reducible repeat (first | refine zN ?_ _ | refine zD ?_ | refine zA ?_ _)); exact BK532.out⟩, ⟨by repeat (first | (with_reducible first | exact HB.out | apply yA | apply yN | apply yD | refine below_set ?_ GE530.out | refine below_set ?_ GE531.out | refine below_set ?_ GE532.out) | exact HB.out)⟩⟩
      case round =>
       clear H'
       try clear c1
       try clear c2
       try clear p2
       try clear c3
       try clear p6
       try clear c7
       try clear c8
       try clear c8b0
       try clear c8b1
       try clear c9
       try clear c10
       try clear c11
       try clear c12
       try clear c14
       try clear c15
       try clear c17
       try clear c19
       try clear c20
       try clear c22
       try clear c25
       try clear c26
       try clear c28
       try clear c28b0
       try clear c28b1
       try clear c30
       try clear c31
       try clear c33
       try clear c37
       try clear c37b0
       try clear c37b1
       try clear c38
       try clear c39
       try clear hcz11_0
       try clear hcz11_1
       try clear hcz13_0
       try clear hcz13_1
       try clear hcz13_2
       try clear hcz16_0
       try clear hcz16_1
       try clear hcz18_0
       try clear hcz18_1
       try clear hcz18_2
       try clear hcz21_0
       try clear hcz21_1
       try clear hcz27_0
       try clear hcz27_1
       try clear hcz27_2
       try clear hcz32_0
       try clear hcz32_1
       try clear hcz34_0
       try clear hcz34_1
       try clear hcz34_2
       try clear hcz36_0
       try clear hcz36_1
       try clear hcz36_2
       try clear hcz40_0
       try clear hcz40_1
       try clear hfz11_0
       try clear hfz11_1
       try clear hfz13_0
       try clear hfz13_1
       try clear hfz13_2
       try clear hfz16_0
       try clear hfz16_1
       try clear hfz18_0
       try clear hfz18_1
       try clear hfz18_2
       try clear hfz21_0
       try clear hfz21_1
       try clear hfz27_0
       try clear hfz27_1
       try clear hfz27_2
       try clear hfz32_0
       try clear hfz32_1
       try clear hfz34_0
       try clear hfz34_1
       try clear hfz34_2
       try clear hfz36_0
       try clear hfz36_1
       try clear hfz36_2
       try clear hfz40_0
       try clear hfz40_1
       try clear p2
       obtain ⟨x5_2, x6_2, rfl, rfl, HA, HK2, BK530, BK531, BK532, HB⟩ := hrel
       cases gk with
       | zero => exact absurd HA.out (by simp [tacticianref01_TameAs.l0])
       | succ k2 =>
        have H := HA.out
        clear HA
        simp only [tacticianref01_TameAs.l0] at H
        by_cases c41 : x6_2 < (a0_2.size : Int)
        ·rw [if_pos c41] at H
         have c41b0 : decide (x6_2 < (a0_2.size : Int)) = true := decide_eq_true c41
         clear c41
         by_cases c42 : x6_2 < 3
         ·rw [if_pos c42] at H
          have c42b0 : decide (x6_2 < 3) = true := decide_eq_true c42
          clear c42
          by_cases c43 : 0 ≤ x6_2
          ·rw [if_pos c43] at H
           have c43b0 : decide (0 ≤ x6_2) = true := decide_eq_true c43
           clear c43
           obtain ⟨ji46, hji46⟩ : ∃ j_ : Int, (Int.tmod (bt a0_2 x6_2) 3) = j_ := ⟨_, rfl⟩
           replace H : (if 0 ≤ (ji46) then (if (ji46) ≤ (((ji46) + 1) % 256) then (if (((ji46) + 1) % 256) ≤ 3 then (if x5_2.size + ((⟨#[97, 98, 39]⟩ : ByteArray).extract ((ji46) : Int).toNat ((((ji46) + 1) % 256) : Int).toNat).size ≤ 9223372036854775807 then (tacticianref01_TameAs.l0 k2 (x5_2 ++ ((⟨#[97, 98, 39]⟩ : ByteArray).extract ((ji46) : Int).toNat ((((ji46) + 1) % 256) : Int).toNat)) (wrap64 (x6_2 + 1)) a0_0 a0_1 a0_2) else (none)) else (none)) else (none)) else (none)) = some (r1, r2, r3) := by first | (rw [hji46] at H; exact H) | (simp only [hji46] at H ⊢; exact H)
           by_cases c47 : 0 ≤ (ji46)
           ·rw [if_pos c47] at H
            have c47b0 := eq_true c47
            have c47b1 : decide (0 ≤ (ji46)) = true := decide_eq_true c47
            clear c47
            by_cases c48 : (ji46) ≤ (((ji46) + 1) % 256)
            ·rw [if_pos c48] at H
             have c48b0 := eq_true c48
             have c48b1 : decide ((ji46) ≤ (((ji46) + 1) % 256)) = true := decide_eq_true c48
             by_cases c49 : (((ji46) + 1) % 256) ≤ 3
             ·rw [if_pos c49] at H
              have c49b0 := eq_true c49
              have c49b1 : decide ((((ji46) + 1) % 256) ≤ 3) = true := decide_eq_true c49
              by_cases c50 : x5_2.size + ((⟨#[97, 98, 39]⟩ : ByteArray).extract ((ji46) : Int).toNat ((((ji46) + 1) % 256) : Int).toNat).size ≤ 9223372036854775807
              ·rw [if_pos c50] at H
               have c50b0 := eq_true c50
               have c50b1 : decide (x5_2.size + ((⟨#[97, 98, 39]⟩ : ByteArray).extract ((ji46) : Int).toNat ((((ji46) + 1) % 256) : Int).toNat).size ≤ 9223372036854775807) = true := decide_eq_true c50
               try have c50b2 : (9223372036854775807 < x5_2.size + ((⟨#[97, 98, 39]⟩ : ByteArray).extract ((ji46) : Int).toNat ((((ji46) + 1) % 256) : Int).toNat).size) = False := eq_false (Nat.not_lt.2 c50)
               have H' := Aside0.mk H
               clear H
               have hnb51 := NB530_531.out
               have hnc51 := NB531_530.out
               have hnb52 := NB530_532.out
               have hnc52 := NB532_530.out
               have hcz53_0 : wr.cell? ⟨gb530, 0, none⟩ = some (.int .i64 a0_0) := (blk_cell BK530.out 0).trans rfl
               have hcz53_1 : wr.cell? ⟨gb530, 1, none⟩ = some (.int .i64 a0_1) := (blk_cell BK530.out 1).trans rfl
               have hcz53_2 : wr.cell? ⟨gb530, 2, none⟩ = some (.string a0_2) := (blk_cell BK530.out 2).trans rfl
               have hfz53_0 := blk_frozen BK530.out 0
               have hfz53_1 := blk_frozen BK530.out 1
               have hfz53_2 := blk_frozen BK530.out 2
               have p44 : 0 ≤ (x6_2 : Int) := of_decide_eq_true (by first | (with_reducible assumption) | assumption)
               have q44 : x6_2 < (a0_2.size : Int) := of_decide_eq_true (by first | (with_reducible assumption) | assumption)
               have hx44 := bt_at a0_2 x6_2
               replace p44 := eq_true p44
               replace q44 := eq_true q44
               have p45 : 0 ≤ (x6_2 : Int) := of_decide_eq_true (by first | (with_reducible assumption) | assumption)
               have q45 : x6_2 < (a0_2.size : Int) := of_decide_eq_true (by first | (with_reducible assumption) | assumption)
               have hx45 := bt_at a0_2 x6_2
               replace p45 := eq_true p45
               replace q45 := eq_true q45
               go_wp2
               repeat (go_quiet (fail); try go_wp2)
               go_roundg k2
               case measure => have := HJ2.out; have := HK2.out; omega
               case rel => exact ⟨(x5_2 ++ ((⟨#[97, 98, 39]⟩ : ByteArray).extract ((ji46) : Int).toNat ((((ji46) + 1) % 256) : Int).toNat)), (wrap64 (x6_2 + 1)), (by first | rfl | (simp; done) | (simp only [← hji46] <;> (first | rfl | simp)) | (simp [*]; done)), (by first | rfl | (simp; done) | (simp [*]; done)), H', ⟨by have := HJ2.out; have := HK2.out; omega⟩, ⟨by (with_reducible repeat (first | refine zN ?_ _ | refine zD ?_ | refine zA ?_ _)); exact BK530.out⟩, ⟨by (with_reducible repeat (first | refine zN ?_ _ | refine zD ?_ | refine zA ?_ _)); exact BK531.out⟩, ⟨by (with_reducible repeat (first | refine zN ?_ _ | refine zD ?_ | refine zA ?_ _)); exact BK532.out⟩, ⟨by repeat (first | (with_reducible first | exact HB.out | apply yA | apply yN | apply yD | refine below_set ?_ GE530.out | refine below_set ?_ GE531.out | refine below_set ?_ GE532.out) | exact HB.out)⟩⟩
              ·rw [if_neg c50] at H
               exact absurd H (by simp)
             ·rw [if_neg c49] at H
              exact absurd H (by simp)
            ·rw [if_neg c48] at H
             exact absurd H (by simp)
           ·rw [if_neg c47] at H
            exact absurd H (by simp)
          ·rw [if_neg c43] at H
           exact absurd H (by simp)
         ·rw [if_neg c42] at H
          have c42b0 : decide (x6_2 < 3) = false := decide_eq_false c42
          clear c42
          replace H := Option.bind_eq_some_iff.mp H
          obtain ⟨⟨t539, t540, t541⟩, A540, H⟩ := H
          replace H : (some (t539, t540, t541)) = some (r1, r2, r3) := H
          have A54 := Aside0.mk A540
          clear A540
          simp only [Option.some.injEq, Prod.mk.injEq] at H
          obtain ⟨rfl, rfl, rfl⟩ := H
          have hnb55 := NB530_531.out
          have hnc55 := NB531_530.out
          have hnb56 := NB530_532.out
          have hnc56 := NB532_530.out
          have hcz57_0 : wr.cell? ⟨gb530, 0, none⟩ = some (.int .i64 a0_0) := (blk_cell BK530.out 0).trans rfl
          have hcz57_1 : wr.cell? ⟨gb530, 1, none⟩ = some (.int .i64 a0_1) := (blk_cell BK530.out 1).trans rfl
          have hcz57_2 : wr.cell? ⟨gb530, 2, none⟩ = some (.string a0_2) := (blk_cell BK530.out 2).trans rfl
          have hfz57_0 := blk_frozen BK530.out 0
          have hfz57_1 := blk_frozen BK530.out 1
          have hfz57_2 := blk_frozen BK530.out 2
          go_wp2_with (first | (go_at_call 143; (with_reducible refine (tacticianref01_Text.calls x5_2 t539 t540 t541 _ A54.out).mono ?_); rintro e w58 ⟨rfl, hb⟩; have n0_ := Aside0.mk (blk_below (g := gb530) (o := .cells #[.int .i64 a0_0, .int .i64 a0_1, .string a0_2] 61 (0, 0)) (by (with_reducible repeat (first | refine zN ?_ _ | refine zD ?_ | refine zA ?_ _)); exact BK530.out) hb); have n1_ := Aside0.mk (blk_below (g := gb531) (o := .cells #[.int .i64 a1_0, .bool a1_1] 88 (0, 0)) (by (with_reducible repeat (first | refine zN ?_ _ | refine zD ?_ | refine zA ?_ _)); exact BK531.out) hb); have n2_ := Aside0.mk (blk_below (g := gb532) (o := .cells #[.int .i64 0, .int .i64 0, .string (⟨#[]⟩ : ByteArray)] 61 (0, 0)) (by (with_reducible repeat (first | refine zN ?_ _ | refine zD ?_ | refine zA ?_ _)); exact BK532.out) hb); have n3_ := Aside0.mk (below_step (by repeat (first | (with_reducible first | exact HB.out | apply yA | apply yN | apply yD | refine below_set ?_ GE530.out | refine below_set ?_ GE531.out | refine below_set ?_ GE532.out) | exact HB.out)) hb); clear BK530; clear BK531; clear BK532; clear HB; have BK530 := n0_; have BK531 := n1_; have BK532 := n2_; have HB := n3_; clear n0_ n1_ n2_ n3_; (try clear hb); (try clear hb2); (try clear hk); (try clear hi); have hnb59 := NB532_531.out; have hnc59 := NB531_532.out; have hcz60_0 : w58.cell? ⟨gb532, 0, none⟩ = some (.int .i64 0) := (blk_cell BK532.out 0).trans rfl; have hcz60_1 : w58.cell? ⟨gb532, 1, none⟩ = some (.int .i64 0) := (blk_cell BK532.out 1).trans rfl; have hcz60_2 : w58.cell? ⟨gb532, 2, none⟩ = some (.string (⟨#[]⟩ : ByteArray)) := (blk_cell BK532.out 2).trans rfl; have hfz60_0 := blk_frozen BK532.out 0; have hfz60_1 := blk_frozen BK532.out 1; have hfz60_2 := blk_frozen BK532.out 2))
          repeat (go_quiet (first | (go_at_call 143; (with_reducible refine (tacticianref01_Text.calls x5_2 t539 t540 t541 _ A54.out).mono ?_); rintro e w58 ⟨rfl, hb⟩; have n0_ := Aside0.mk (blk_below (g := gb530) (o := .cells #[.int .i64 a0_0, .int .i64 a0_1, .string a0_2] 61 (0, 0)) (by (with_reducible repeat (first | refine zN ?_ _ | refine zD ?_ | refine zA ?_ _)); exact BK530.out) hb); have n1_ := Aside0.mk (blk_below (g := gb531) (o := .cells #[.int .i64 a1_0, .bool a1_1] 88 (0, 0)) (by (with_reducible repeat (first | refine zN ?_ _ | refine zD ?_ | refine zA ?_ _)); exact BK531.out) hb); have n2_ := Aside0.mk (blk_below (g := gb532) (o := .cells #[.int .i64 0, .int .i64 0, .string (⟨#[]⟩ : ByteArray)] 61 (0, 0)) (by (with_reducible repeat (first | refine zN ?_ _ | refine zD ?_ | refine zA ?_ _)); exact BK532.out) hb); have n3_ := Aside0.mk (below_step (by repeat (first | (with_reducible first | exact HB.out | apply yA | apply yN | apply yD | refine below_set ?_ GE530.out | refine below_set ?_ GE531.out | refine below_set ?_ GE532.out) | exact HB.out)) hb); clear BK530; clear BK531; clear BK532; clear HB; have BK530 := n0_; have BK531 := n1_; have BK532 := n2_; have HB := n3_; clear n0_ n1_ n2_ n3_; (try clear hb); (try clear hb2); (try clear hk); (try clear hi); have hnb59 := NB532_531.out; have hnc59 := NB531_532.out; have hcz60_0 : w58.cell? ⟨gb532, 0, none⟩ = some (.int .i64 0) := (blk_cell BK532.out 0).trans rfl; have hcz60_1 : w58.cell? ⟨gb532, 1, none⟩ = some (.int .i64 0) := (blk_cell BK532.out 1).trans rfl; have hcz60_2 : w58.cell? ⟨gb532, 2, none⟩ = some (.string (⟨#[]⟩ : ByteArray)) := (blk_cell BK532.out 2).trans rfl; have hfz60_0 := blk_frozen BK532.out 0; have hfz60_1 := blk_frozen BK532.out 1; have hfz60_2 := blk_frozen BK532.out 2)); try go_wp2_with (first | (go_at_call 143; (with_reducible refine (tacticianref01_Text.calls x5_2 t539 t540 t541 _ A54.out).mono ?_); rintro e w58 ⟨rfl, hb⟩; have n0_ := Aside0.mk (blk_below (g := gb530) (o := .cells #[.int .i64 a0_0, .int .i64 a0_1, .string a0_2] 61 (0, 0)) (by (with_reducible repeat (first | refine zN ?_ _ | refine zD ?_ | refine zA ?_ _)); exact BK530.out) hb); have n1_ := Aside0.mk (blk_below (g := gb531) (o := .cells #[.int .i64 a1_0, .bool a1_1] 88 (0, 0)) (by (with_reducible repeat (first | refine zN ?_ _ | refine zD ?_ | refine zA ?_ _)); exact BK531.out) hb); have n2_ := Aside0.mk (blk_below (g := gb532) (o := .cells #[.int .i64 0, .int .i64 0, .string (⟨#[]⟩ : ByteArray)] 61 (0, 0)) (by (with_reducible repeat (first | refine zN ?_ _ | refine zD ?_ | refine zA ?_ _)); exact BK532.out) hb); have n3_ := Aside0.mk (below_step (by repeat (first | (with_reducible first | exact HB.out | apply yA | apply yN | apply yD | refine below_set ?_ GE530.out | refine below_set ?_ GE531.out | refine below_set ?_ GE532.out) | exact HB.out)) hb); clear BK530; clear BK531; clear BK532; clear HB; have BK530 := n0_; have BK531 := n1_; have BK532 := n2_; have HB := n3_; clear n0_ n1_ n2_ n3_; (try clear hb); (try clear hb2); (try clear hk); (try clear hi); have hnb59 := NB532_531.out; have hnc59 := NB531_532.out; have hcz60_0 : w58.cell? ⟨gb532, 0, none⟩ = some (.int .i64 0) := (blk_cell BK532.out 0).trans rfl; have hcz60_1 : w58.cell? ⟨gb532, 1, none⟩ = some (.int .i64 0) := (blk_cell BK532.out 1).trans rfl; have hcz60_2 : w58.cell? ⟨gb532, 2, none⟩ = some (.string (⟨#[]⟩ : ByteArray)) := (blk_cell BK532.out 2).trans rfl; have hfz60_0 := blk_frozen BK532.out 0; have hfz60_1 := blk_frozen BK532.out 1; have hfz60_2 := blk_frozen BK532.out 2)))
          refine bodyPost_ret (results_cell_row rfl _ _ gb532 61 #[.int .i64 t539, .int .i64 t540, .string t541] (0, 0) _ rfl (by (with_reducible repeat (first | refine zN ?_ _ | refine zD ?_ | refine zA ?_ _)); refine blk_put (cs := #[.int .i64 t539, .int .i64 t540, .string (⟨#[]⟩ : ByteArray)]) ?_ 2 _ rfl; (with_reducible repeat (first | refine zN ?_ _ | refine zD ?_ | refine zA ?_ _)); refine blk_put (cs := #[.int .i64 t539, .int .i64 0, .string (⟨#[]⟩ : ByteArray)]) ?_ 1 _ rfl; (with_reducible repeat (first | refine zN ?_ _ | refine zD ?_ | refine zA ?_ _)); refine blk_put (cs := #[.int .i64 0, .int .i64 0, .string (⟨#[]⟩ : ByteArray)]) ?_ 0 _ rfl; (with_reducible repeat (first | refine zN ?_ _ | refine zD ?_ | refine zA ?_ _)); exact BK532.out) Tryz.underlying61 rfl (by kernel_rfl)) rfl ?_
          exact ⟨by first | rfl | (simp [errW_none, errW_some] <;> rfl) | (simp [*, errW_none, errW_some] <;> rfl), by repeat (first | (with_reducible first | exact HB.out | apply yA | apply yN | apply yD | refine below_set ?_ GE530.out | refine below_set ?_ GE531.out | refine below_set ?_ GE532.out) | exact HB.out)⟩
        ·rw [if_neg c41] at H
         have c41b0 : decide (x6_2 < (a0_2.size : Int)) = false := decide_eq_false c41
         clear c41
         replace H := Option.bind_eq_some_iff.mp H
         obtain ⟨⟨t542, t543, t544⟩, A610, H⟩ := H
         replace H : (some (t542, t543, t544)) = some (r1, r2, r3) := H
         have A61 := Aside0.mk A610
         clear A610
         simp only [Option.some.injEq, Prod.mk.injEq] at H
         obtain ⟨rfl, rfl, rfl⟩ := H
         have hnb62 := NB530_531.out
         have hnc62 := NB531_530.out
         have hnb63 := NB530_532.out
         have hnc63 := NB532_530.out
         have hcz64_0 : wr.cell? ⟨gb530, 0, none⟩ = some (.int .i64 a0_0) := (blk_cell BK530.out 0).trans rfl
         have hcz64_1 : wr.cell? ⟨gb530, 1, none⟩ = some (.int .i64 a0_1) := (blk_cell BK530.out 1).trans rfl
         have hcz64_2 : wr.cell? ⟨gb530, 2, none⟩ = some (.string a0_2) := (blk_cell BK530.out 2).trans rfl
         have hfz64_0 := blk_frozen BK530.out 0
         have hfz64_1 := blk_frozen BK530.out 1
         have hfz64_2 := blk_frozen BK530.out 2
         go_wp2_with (first | (go_at_call 143; (with_reducible refine (tacticianref01_Text.calls x5_2 t542 t543 t544 _ A61.out).mono ?_); rintro e w65 ⟨rfl, hb⟩; have n0_ := Aside0.mk (blk_below (g := gb530) (o := .cells #[.int .i64 a0_0, .int .i64 a0_1, .string a0_2] 61 (0, 0)) (by (with_reducible repeat (first | refine zN ?_ _ | refine zD ?_ | refine zA ?_ _)); exact BK530.out) hb); have n1_ := Aside0.mk (blk_below (g := gb531) (o := .cells #[.int .i64 a1_0, .bool a1_1] 88 (0, 0)) (by (with_reducible repeat (first | refine zN ?_ _ | refine zD ?_ | refine zA ?_ _)); exact BK531.out) hb); have n2_ := Aside0.mk (blk_below (g := gb532) (o := .cells #[.int .i64 0, .int .i64 0, .string (⟨#[]⟩ : ByteArray)] 61 (0, 0)) (by (with_reducible repeat (first | refine zN ?_ _ | refine zD ?_ | refine zA ?_ _)); exact BK532.out) hb); have n3_ := Aside0.mk (below_step (by repeat (first | (with_reducible first | exact HB.out | apply yA | apply yN | apply yD | refine below_set ?_ GE530.out | refine below_set ?_ GE531.out | refine below_set ?_ GE532.out) | exact HB.out)) hb); clear BK530; clear BK531; clear BK532; clear HB; have BK530 := n0_; have BK531 := n1_; have BK532 := n2_; have HB := n3_; clear n0_ n1_ n2_ n3_; (try clear hb); (try clear hb2); (try clear hk); (try clear hi); have hnb66 := NB532_531.out; have hnc66 := NB531_532.out; have hcz67_0 : w65.cell? ⟨gb532, 0, none⟩ = some (.int .i64 0) := (blk_cell BK532.out 0).trans rfl; have hcz67_1 : w65.cell? ⟨gb532, 1, none⟩ = some (.int .i64 0) := (blk_cell BK532.out 1).trans rfl; have hcz67_2 : w65.cell? ⟨gb532, 2, none⟩ = some (.string (⟨#[]⟩ : ByteArray)) := (blk_cell BK532.out 2).trans rfl; have hfz67_0 := blk_frozen BK532.out 0; have hfz67_1 := blk_frozen BK532.out 1; have hfz67_2 := blk_frozen BK532.out 2))
         repeat (go_quiet (first | (go_at_call 143; (with_reducible refine (tacticianref01_Text.calls x5_2 t542 t543 t544 _ A61.out).mono ?_); rintro e w65 ⟨rfl, hb⟩; have n0_ := Aside0.mk (blk_below (g := gb530) (o := .cells #[.int .i64 a0_0, .int .i64 a0_1, .string a0_2] 61 (0, 0)) (by (with_reducible repeat (first | refine zN ?_ _ | refine zD ?_ | refine zA ?_ _)); exact BK530.out) hb); have n1_ := Aside0.mk (blk_below (g := gb531) (o := .cells #[.int .i64 a1_0, .bool a1_1] 88 (0, 0)) (by (with_reducible repeat (first | refine zN ?_ _ | refine zD ?_ | refine zA ?_ _)); exact BK531.out) hb); have n2_ := Aside0.mk (blk_below (g := gb532) (o := .cells #[.int .i64 0, .int .i64 0, .string (⟨#[]⟩ : ByteArray)] 61 (0, 0)) (by (with_reducible repeat (first | refine zN ?_ _ | refine zD ?_ | refine zA ?_ _)); exact BK532.out) hb); have n3_ := Aside0.mk (below_step (by repeat (first | (with_reducible first | exact HB.out | apply yA | apply yN | apply yD | refine below_set ?_ GE530.out | refine below_set ?_ GE531.out | refine below_set ?_ GE532.out) | exact HB.out)) hb); clear BK530; clear BK531; clear BK532; clear HB; have BK530 := n0_; have BK531 := n1_; have BK532 := n2_; have HB := n3_; clear n0_ n1_ n2_ n3_; (try clear hb); (try clear hb2); (try clear hk); (try clear hi); have hnb66 := NB532_531.out; have hnc66 := NB531_532.out; have hcz67_0 : w65.cell? ⟨gb532, 0, none⟩ = some (.int .i64 0) := (blk_cell BK532.out 0).trans rfl; have hcz67_1 : w65.cell? ⟨gb532, 1, none⟩ = some (.int .i64 0) := (blk_cell BK532.out 1).trans rfl; have hcz67_2 : w65.cell? ⟨gb532, 2, none⟩ = some (.string (⟨#[]⟩ : ByteArray)) := (blk_cell BK532.out 2).trans rfl; have hfz67_0 := blk_frozen BK532.out 0; have hfz67_1 := blk_frozen BK532.out 1; have hfz67_2 := blk_frozen BK532.out 2)); try go_wp2_with (first | (go_at_call 143; (with_reducible refine (tacticianref01_Text.calls x5_2 t542 t543 t544 _ A61.out).mono ?_); rintro e w65 ⟨rfl, hb⟩; have n0_ := Aside0.mk (blk_below (g := gb530) (o := .cells #[.int .i64 a0_0, .int .i64 a0_1, .string a0_2] 61 (0, 0)) (by (with_reducible repeat (first | refine zN ?_ _ | refine zD ?_ | refine zA ?_ _)); exact BK530.out) hb); have n1_ := Aside0.mk (blk_below (g := gb531) (o := .cells #[.int .i64 a1_0, .bool a1_1] 88 (0, 0)) (by (with_reducible repeat (first | refine zN ?_ _ | refine zD ?_ | refine zA ?_ _)); exact BK531.out) hb); have n2_ := Aside0.mk (blk_below (g := gb532) (o := .cells #[.int .i64 0, .int .i64 0, .string (⟨#[]⟩ : ByteArray)] 61 (0, 0)) (by (with_reducible repeat (first | refine zN ?_ _ | refine zD ?_ | refine zA ?_ _)); exact BK532.out) hb); have n3_ := Aside0.mk (below_step (by repeat (first | (with_reducible first | exact HB.out | apply yA | apply yN | apply yD | refine below_set ?_ GE530.out | refine below_set ?_ GE531.out | refine below_set ?_ GE532.out) | exact HB.out)) hb); clear BK530; clear BK531; clear BK532; clear HB; have BK530 := n0_; have BK531 := n1_; have BK532 := n2_; have HB := n3_; clear n0_ n1_ n2_ n3_; (try clear hb); (try clear hb2); (try clear hk); (try clear hi); have hnb66 := NB532_531.out; have hnc66 := NB531_532.out; have hcz67_0 : w65.cell? ⟨gb532, 0, none⟩ = some (.int .i64 0) := (blk_cell BK532.out 0).trans rfl; have hcz67_1 : w65.cell? ⟨gb532, 1, none⟩ = some (.int .i64 0) := (blk_cell BK532.out 1).trans rfl; have hcz67_2 : w65.cell? ⟨gb532, 2, none⟩ = some (.string (⟨#[]⟩ : ByteArray)) := (blk_cell BK532.out 2).trans rfl; have hfz67_0 := blk_frozen BK532.out 0; have hfz67_1 := blk_frozen BK532.out 1; have hfz67_2 := blk_frozen BK532.out 2)))
         refine bodyPost_ret (results_cell_row rfl _ _ gb532 61 #[.int .i64 t542, .int .i64 t543, .string t544] (0, 0) _ rfl (by (with_reducible repeat (first | refine zN ?_ _ | refine zD ?_ | refine zA ?_ _)); refine blk_put (cs := #[.int .i64 t542, .int .i64 t543, .string (⟨#[]⟩ : ByteArray)]) ?_ 2 _ rfl; (with_reducible repeat (first | refine zN ?_ _ | refine zD ?_ | refine zA ?_ _)); refine blk_put (cs := #[.int .i64 t542, .int .i64 0, .string (⟨#[]⟩ : ByteArray)]) ?_ 1 _ rfl; (with_reducible repeat (first | refine zN ?_ _ | refine zD ?_ | refine zA ?_ _)); refine blk_put (cs := #[.int .i64 0, .int .i64 0, .string (⟨#[]⟩ : ByteArray)]) ?_ 0 _ rfl; (with_reducible repeat (first | refine zN ?_ _ | refine zD ?_ | refine zA ?_ _)); exact BK532.out) Tryz.underlying61 rfl (by kernel_rfl)) rfl ?_
         exact ⟨by first | rfl | (simp [errW_none, errW_some] <;> rfl) | (simp [*, errW_none, errW_some] <;> rfl), by repeat (first | (with_reducible first | exact HB.out | apply yA | apply yN | apply yD | refine below_set ?_ GE530.out | refine below_set ?_ GE531.out | refine below_set ?_ GE532.out) | exact HB.out)⟩
     ·rw [if_neg c37] at H
      have c37b0 : (a1_0 == 3) = false := beq_eq_false_iff_ne.mpr c37
      have c37b1 : (a1_0 != 3) = true := bne_iff_ne.mpr c37
      by_cases c68 : (Int.tmod (IntKind.u64.wrap (a0_1)) 16) = 15
      ·rw [if_pos c68] at H
       have c68b0 : ((Int.tmod (IntKind.u64.wrap (a0_1)) 16) == 15) = true := beq_iff_eq.mpr c68
       have c68b1 : ((Int.tmod (IntKind.u64.wrap (a0_1)) 16) != 15) = false := bne_eq_false_iff_eq.mpr c68
       clear c68
       replace H := Option.bind_eq_some_iff.mp H
       obtain ⟨⟨t545, t546, t547⟩, A690, H⟩ := H
       replace H : (some (t545, t546, t547)) = some (r1, r2, r3) := H
       have A69 := Aside0.mk A690
       clear A690
       simp only [Option.some.injEq, Prod.mk.injEq] at H
       obtain ⟨rfl, rfl, rfl⟩ := H
       have hnb70 := NB531_530.out
       have hnc70 := NB530_531.out
       have hnb71 := NB531_532.out
       have hnc71 := NB532_531.out
       have hcz72_0 : wc.cell? ⟨gb531, 0, none⟩ = some (.int .i64 a1_0) := (blk_cell BK531.out 0).trans rfl
       have hcz72_1 : wc.cell? ⟨gb531, 1, none⟩ = some (.bool a1_1) := (blk_cell BK531.out 1).trans rfl
       have hfz72_0 := blk_frozen BK531.out 0
       have hfz72_1 := blk_frozen BK531.out 1
       have hnb73 := NB530_532.out
       have hnc73 := NB532_530.out
       have hcz74_0 : wc.cell? ⟨gb530, 0, none⟩ = some (.int .i64 a0_0) := (blk_cell BK530.out 0).trans rfl
       have hcz74_1 : wc.cell? ⟨gb530, 1, none⟩ = some (.int .i64 a0_1) := (blk_cell BK530.out 1).trans rfl
       have hcz74_2 : wc.cell? ⟨gb530, 2, none⟩ = some (.string a0_2) := (blk_cell BK530.out 2).trans rfl
       have hfz74_0 := blk_frozen BK530.out 0
       have hfz74_1 := blk_frozen BK530.out 1
       have hfz74_2 := blk_frozen BK530.out 2
       go_wp2_with (first | (go_at_call 41; (with_reducible refine (tacticianref01_Int.calls a0_1 t545 t546 t547 _ A69.out).mono ?_); rintro e w75 ⟨rfl, hb⟩; have n0_ := Aside0.mk (blk_below (g := gb530) (o := .cells #[.int .i64 a0_0, .int .i64 a0_1, .string a0_2] 61 (0, 0)) (by (with_reducible repeat (first | refine zN ?_ _ | refine zD ?_ | refine zA ?_ _)); exact BK530.out) hb); have n1_ := Aside0.mk (blk_below (g := gb531) (o := .cells #[.int .i64 a1_0, .bool a1_1] 88 (0, 0)) (by (with_reducible repeat (first | refine zN ?_ _ | refine zD ?_ | refine zA ?_ _)); exact BK531.out) hb); have n2_ := Aside0.mk (blk_below (g := gb532) (o := .cells #[.int .i64 0, .int .i64 0, .string (⟨#[]⟩ : ByteArray)] 61 (0, 0)) (by (with_reducible repeat (first | refine zN ?_ _ | refine zD ?_ | refine zA ?_ _)); exact BK532.out) hb); have n3_ := Aside0.mk (below_step (by repeat (first | (with_reducible first | exact HB.out | apply yA | apply yN | apply yD | refine below_set ?_ GE530.out | refine below_set ?_ GE531.out | refine below_set ?_ GE532.out) | exact HB.out)) hb); clear BK530; clear BK531; clear BK532; clear HB; have BK530 := n0_; have BK531 := n1_; have BK532 := n2_; have HB := n3_; clear n0_ n1_ n2_ n3_; (try clear hb); (try clear hb2); (try clear hk); (try clear hi); have hcz76_0 : w75.cell? ⟨gb532, 0, none⟩ = some (.int .i64 0) := (blk_cell BK532.out 0).trans rfl; have hcz76_1 : w75.cell? ⟨gb532, 1, none⟩ = some (.int .i64 0) := (blk_cell BK532.out 1).trans rfl; have hcz76_2 : w75.cell? ⟨gb532, 2, none⟩ = some (.string (⟨#[]⟩ : ByteArray)) := (blk_cell BK532.out 2).trans rfl; have hfz76_0 := blk_frozen BK532.out 0; have hfz76_1 := blk_frozen BK532.out 1; have hfz76_2 := blk_frozen BK532.out 2))
       repeat (go_quiet (first | (go_at_call 41; (with_reducible refine (tacticianref01_Int.calls a0_1 t545 t546 t547 _ A69.out).mono ?_); rintro e w75 ⟨rfl, hb⟩; have n0_ := Aside0.mk (blk_below (g := gb530) (o := .cells #[.int .i64 a0_0, .int .i64 a0_1, .string a0_2] 61 (0, 0)) (by (with_reducible repeat (first | refine zN ?_ _ | refine zD ?_ | refine zA ?_ _)); exact BK530.out) hb); have n1_ := Aside0.mk (blk_below (g := gb531) (o := .cells #[.int .i64 a1_0, .bool a1_1] 88 (0, 0)) (by (with_reducible repeat (first | refine zN ?_ _ | refine zD ?_ | refine zA ?_ _)); exact BK531.out) hb); have n2_ := Aside0.mk (blk_below (g := gb532) (o := .cells #[.int .i64 0, .int .i64 0, .string (⟨#[]⟩ : ByteArray)] 61 (0, 0)) (by (with_reducible repeat (first | refine zN ?_ _ | refine zD ?_ | refine zA ?_ _)); exact BK532.out) hb); have n3_ := Aside0.mk (below_step (by repeat (first | (with_reducible first | exact HB.out | apply yA | apply yN | apply yD | refine below_set ?_ GE530.out | refine below_set ?_ GE531.out | refine below_set ?_ GE532.out) | exact HB.out)) hb); clear BK530; clear BK531; clear BK532; clear HB; have BK530 := n0_; have BK531 := n1_; have BK532 := n2_; have HB := n3_; clear n0_ n1_ n2_ n3_; (try clear hb); (try clear hb2); (try clear hk); (try clear hi); have hcz76_0 : w75.cell? ⟨gb532, 0, none⟩ = some (.int .i64 0) := (blk_cell BK532.out 0).trans rfl; have hcz76_1 : w75.cell? ⟨gb532, 1, none⟩ = some (.int .i64 0) := (blk_cell BK532.out 1).trans rfl; have hcz76_2 : w75.cell? ⟨gb532, 2, none⟩ = some (.string (⟨#[]⟩ : ByteArray)) := (blk_cell BK532.out 2).trans rfl; have hfz76_0 := blk_frozen BK532.out 0; have hfz76_1 := blk_frozen BK532.out 1; have hfz76_2 := blk_frozen BK532.out 2)); try go_wp2_with (first | (go_at_call 41; (with_reducible refine (tacticianref01_Int.calls a0_1 t545 t546 t547 _ A69.out).mono ?_); rintro e w75 ⟨rfl, hb⟩; have n0_ := Aside0.mk (blk_below (g := gb530) (o := .cells #[.int .i64 a0_0, .int .i64 a0_1, .string a0_2] 61 (0, 0)) (by (with_reducible repeat (first | refine zN ?_ _ | refine zD ?_ | refine zA ?_ _)); exact BK530.out) hb); have n1_ := Aside0.mk (blk_below (g := gb531) (o := .cells #[.int .i64 a1_0, .bool a1_1] 88 (0, 0)) (by (with_reducible repeat (first | refine zN ?_ _ | refine zD ?_ | refine zA ?_ _)); exact BK531.out) hb); have n2_ := Aside0.mk (blk_below (g := gb532) (o := .cells #[.int .i64 0, .int .i64 0, .string (⟨#[]⟩ : ByteArray)] 61 (0, 0)) (by (with_reducible repeat (first | refine zN ?_ _ | refine zD ?_ | refine zA ?_ _)); exact BK532.out) hb); have n3_ := Aside0.mk (below_step (by repeat (first | (with_reducible first | exact HB.out | apply yA | apply yN | apply yD | refine below_set ?_ GE530.out | refine below_set ?_ GE531.out | refine below_set ?_ GE532.out) | exact HB.out)) hb); clear BK530; clear BK531; clear BK532; clear HB; have BK530 := n0_; have BK531 := n1_; have BK532 := n2_; have HB := n3_; clear n0_ n1_ n2_ n3_; (try clear hb); (try clear hb2); (try clear hk); (try clear hi); have hcz76_0 : w75.cell? ⟨gb532, 0, none⟩ = some (.int .i64 0) := (blk_cell BK532.out 0).trans rfl; have hcz76_1 : w75.cell? ⟨gb532, 1, none⟩ = some (.int .i64 0) := (blk_cell BK532.out 1).trans rfl; have hcz76_2 : w75.cell? ⟨gb532, 2, none⟩ = some (.string (⟨#[]⟩ : ByteArray)) := (blk_cell BK532.out 2).trans rfl; have hfz76_0 := blk_frozen BK532.out 0; have hfz76_1 := blk_frozen BK532.out 1; have hfz76_2 := blk_frozen BK532.out 2)))
       refine bodyPost_ret (results_cell_row rfl _ _ gb532 61 #[.int .i64 t545, .int .i64 t546, .string t547] (0, 0) _ rfl (by (with_reducible repeat (first | refine zN ?_ _ | refine zD ?_ | refine zA ?_ _)); refine blk_put (cs := #[.int .i64 t545, .int .i64 t546, .string (⟨#[]⟩ : ByteArray)]) ?_ 2 _ rfl; (with_reducible repeat (first | refine zN ?_ _ | refine zD ?_ | refine zA ?_ _)); refine blk_put (cs := #[.int .i64 t545, .int .i64 0, .string (⟨#[]⟩ : ByteArray)]) ?_ 1 _ rfl; (with_reducible repeat (first | refine zN ?_ _ | refine zD ?_ | refine zA ?_ _)); refine blk_put (cs := #[.int .i64 0, .int .i64 0, .string (⟨#[]⟩ : ByteArray)]) ?_ 0 _ rfl; (with_reducible repeat (first | refine zN ?_ _ | refine zD ?_ | refine zA ?_ _)); exact BK532.out) Tryz.underlying61 rfl (by kernel_rfl)) rfl ?_
       exact ⟨by first | rfl | (simp [errW_none, errW_some] <;> rfl) | (simp [*, errW_none, errW_some] <;> rfl), by repeat (first | (with_reducible first | exact HB.out | apply yA | apply yN | apply yD | refine below_set ?_ GE530.out | refine below_set ?_ GE531.out | refine below_set ?_ GE532.out) | exact HB.out)⟩
      ·rw [if_neg c68] at H
       have c68b0 : ((Int.tmod (IntKind.u64.wrap (a0_1)) 16) == 15) = false := beq_eq_false_iff_ne.mpr c68
       have c68b1 : ((Int.tmod (IntKind.u64.wrap (a0_1)) 16) != 15) = true := bne_iff_ne.mpr c68
       replace H := Option.bind_eq_some_iff.mp H
       obtain ⟨⟨t548, t549, t550⟩, A770, H⟩ := H
       replace H : (some (t548, t549, t550)) = some (r1, r2, r3) := H
       have A77 := Aside0.mk A770
       clear A770
       simp only [Option.some.injEq, Prod.mk.injEq] at H
       obtain ⟨rfl, rfl, rfl⟩ := H
       have hnb78 := NB531_530.out
       have hnc78 := NB530_531.out
       have hnb79 := NB531_532.out
       have hnc79 := NB532_531.out
       have hcz80_0 : wc.cell? ⟨gb531, 0, none⟩ = some (.int .i64 a1_0) := (blk_cell BK531.out 0).trans rfl
       have hcz80_1 : wc.cell? ⟨gb531, 1, none⟩ = some (.bool a1_1) := (blk_cell BK531.out 1).trans rfl
       have hfz80_0 := blk_frozen BK531.out 0
       have hfz80_1 := blk_frozen BK531.out 1
       have hnb81 := NB530_532.out
       have hnc81 := NB532_530.out
       have hcz82_0 : wc.cell? ⟨gb530, 0, none⟩ = some (.int .i64 a0_0) := (blk_cell BK530.out 0).trans rfl
       have hcz82_1 : wc.cell? ⟨gb530, 1, none⟩ = some (.int .i64 a0_1) := (blk_cell BK530.out 1).trans rfl
       have hcz82_2 : wc.cell? ⟨gb530, 2, none⟩ = some (.string a0_2) := (blk_cell BK530.out 2).trans rfl
       have hfz82_0 := blk_frozen BK530.out 0
       have hfz82_1 := blk_frozen BK530.out 1
       have hfz82_2 := blk_frozen BK530.out 2
       go_wp2_with (first | (go_at_call 41; (with_reducible refine (tacticianref01_Int.calls (wrap64 ((wrap64 (Int.tmod (IntKind.u64.wrap (a0_1)) 7)) - 2)) t548 t549 t550 _ A77.out).mono ?_); rintro e w83 ⟨rfl, hb⟩; have n0_ := Aside0.mk (blk_below (g := gb530) (o := .cells #[.int .i64 a0_0, .int .i64 a0_1, .string a0_2] 61 (0, 0)) (by (with_reducible repeat (first | refine zN ?_ _ | refine zD ?_ | refine zA ?_ _)); exact BK530.out) hb); have n1_ := Aside0.mk (blk_below (g := gb531) (o := .cells #[.int .i64 a1_0, .bool a1_1] 88 (0, 0)) (by (with_reducible repeat (first | refine zN ?_ _ | refine zD ?_ | refine zA ?_ _)); exact BK531.out) hb); have n2_ := Aside0.mk (blk_below (g := gb532) (o := .cells #[.int .i64 0, .int .i64 0, .string (⟨#[]⟩ : ByteArray)] 61 (0, 0)) (by (with_reducible repeat (first | refine zN ?_ _ | refine zD ?_ | refine zA ?_ _)); exact BK532.out) hb); have n3_ := Aside0.mk (below_step (by repeat (first | (with_reducible first | exact HB.out | apply yA | apply yN | apply yD | refine below_set ?_ GE530.out | refine below_set ?_ GE531.out | refine below_set ?_ GE532.out) | exact HB.out)) hb); clear BK530; clear BK531; clear BK532; clear HB; have BK530 := n0_; have BK531 := n1_; have BK532 := n2_; have HB := n3_; clear n0_ n1_ n2_ n3_; (try clear hb); (try clear hb2); (try clear hk); (try clear hi); have hcz84_0 : w83.cell? ⟨gb532, 0, none⟩ = some (.int .i64 0) := (blk_cell BK532.out 0).trans rfl; have hcz84_1 : w83.cell? ⟨gb532, 1, none⟩ = some (.int .i64 0) := (blk_cell BK532.out 1).trans rfl; have hcz84_2 : w83.cell? ⟨gb532, 2, none⟩ = some (.string (⟨#[]⟩ : ByteArray)) := (blk_cell BK532.out 2).trans rfl; have hfz84_0 := blk_frozen BK532.out 0; have hfz84_1 := blk_frozen BK532.out 1; have hfz84_2 := blk_frozen BK532.out 2))
       repeat (go_quiet (first | (go_at_call 41; (with_reducible refine (tacticianref01_Int.calls (wrap64 ((wrap64 (Int.tmod (IntKind.u64.wrap (a0_1)) 7)) - 2)) t548 t549 t550 _ A77.out).mono ?_); rintro e w83 ⟨rfl, hb⟩; have n0_ := Aside0.mk (blk_below (g := gb530) (o := .cells #[.int .i64 a0_0, .int .i64 a0_1, .string a0_2] 61 (0, 0)) (by (with_reducible repeat (first | refine zN ?_ _ | refine zD ?_ | refine zA ?_ _)); exact BK530.out) hb); have n1_ := Aside0.mk (blk_below (g := gb531) (o := .cells #[.int .i64 a1_0, .bool a1_1] 88 (0, 0)) (by (with_reducible repeat (first | refine zN ?_ _ | refine zD ?_ | refine zA ?_ _)); exact BK531.out) hb); have n2_ := Aside0.mk (blk_below (g := gb532) (o := .cells #[.int .i64 0, .int .i64 0, .string (⟨#[]⟩ : ByteArray)] 61 (0, 0)) (by (with_reducible repeat (first | refine zN ?_ _ | refine zD ?_ | refine zA ?_ _)); exact BK532.out) hb); have n3_ := Aside0.mk (below_step (by repeat (first | (with_reducible first | exact HB.out | apply yA | apply yN | apply yD | refine below_set ?_ GE530.out | refine below_set ?_ GE531.out | refine below_set ?_ GE532.out) | exact HB.out)) hb); clear BK530; clear BK531; clear BK532; clear HB; have BK530 := n0_; have BK531 := n1_; have BK532 := n2_; have HB := n3_; clear n0_ n1_ n2_ n3_; (try clear hb); (try clear hb2); (try clear hk); (try clear hi); have hcz84_0 : w83.cell? ⟨gb532, 0, none⟩ = some (.int .i64 0) := (blk_cell BK532.out 0).trans rfl; have hcz84_1 : w83.cell? ⟨gb532, 1, none⟩ = some (.int .i64 0) := (blk_cell BK532.out 1).trans rfl; have hcz84_2 : w83.cell? ⟨gb532, 2, none⟩ = some (.string (⟨#[]⟩ : ByteArray)) := (blk_cell BK532.out 2).trans rfl; have hfz84_0 := blk_frozen BK532.out 0; have hfz84_1 := blk_frozen BK532.out 1; have hfz84_2 := blk_frozen BK532.out 2)); try go_wp2_with (first | (go_at_call 41; (with_reducible refine (tacticianref01_Int.calls (wrap64 ((wrap64 (Int.tmod (IntKind.u64.wrap (a0_1)) 7)) - 2)) t548 t549 t550 _ A77.out).mono ?_); rintro e w83 ⟨rfl, hb⟩; have n0_ := Aside0.mk (blk_below (g := gb530) (o := .cells #[.int .i64 a0_0, .int .i64 a0_1, .string a0_2] 61 (0, 0)) (by (with_reducible repeat (first | refine zN ?_ _ | refine zD ?_ | refine zA ?_ _)); exact BK530.out) hb); have n1_ := Aside0.mk (blk_below (g := gb531) (o := .cells #[.int .i64 a1_0, .bool a1_1] 88 (0, 0)) (by (with_reducible repeat (first | refine zN ?_ _ | refine zD ?_ | refine zA ?_ _)); exact BK531.out) hb); have n2_ := Aside0.mk (blk_below (g := gb532) (o := .cells #[.int .i64 0, .int .i64 0, .string (⟨#[]⟩ : ByteArray)] 61 (0, 0)) (by (with_reducible repeat (first | refine zN ?_ _ | refine zD ?_ | refine zA ?_ _)); exact BK532.out) hb); have n3_ := Aside0.mk (below_step (by repeat (first | (with_reducible first | exact HB.out | apply yA | apply yN | apply yD | refine below_set ?_ GE530.out | refine below_set ?_ GE531.out | refine below_set ?_ GE532.out) | exact HB.out)) hb); clear BK530; clear BK531; clear BK532; clear HB; have BK530 := n0_; have BK531 := n1_; have BK532 := n2_; have HB := n3_; clear n0_ n1_ n2_ n3_; (try clear hb); (try clear hb2); (try clear hk); (try clear hi); have hcz84_0 : w83.cell? ⟨gb532, 0, none⟩ = some (.int .i64 0) := (blk_cell BK532.out 0).trans rfl; have hcz84_1 : w83.cell? ⟨gb532, 1, none⟩ = some (.int .i64 0) := (blk_cell BK532.out 1).trans rfl; have hcz84_2 : w83.cell? ⟨gb532, 2, none⟩ = some (.string (⟨#[]⟩ : ByteArray)) := (blk_cell BK532.out 2).trans rfl; have hfz84_0 := blk_frozen BK532.out 0; have hfz84_1 := blk_frozen BK532.out 1; have hfz84_2 := blk_frozen BK532.out 2)))
       refine bodyPost_ret (results_cell_row rfl _ _ gb532 61 #[.int .i64 t548, .int .i64 t549, .string t550] (0, 0) _ rfl (by (with_reducible repeat (first | refine zN ?_ _ | refine zD ?_ | refine zA ?_ _)); refine blk_put (cs := #[.int .i64 t548, .int .i64 t549, .string (⟨#[]⟩ : ByteArray)]) ?_ 2 _ rfl; (with_reducible repeat (first | refine zN ?_ _ | refine zD ?_ | refine zA ?_ _)); refine blk_put (cs := #[.int .i64 t548, .int .i64 0, .string (⟨#[]⟩ : ByteArray)]) ?_ 1 _ rfl; (with_reducible repeat (first | refine zN ?_ _ | refine zD ?_ | refine zA ?_ _)); refine blk_put (cs := #[.int .i64 0, .int .i64 0, .string (⟨#[]⟩ : ByteArray)]) ?_ 0 _ rfl; (with_reducible repeat (first | refine zN ?_ _ | refine zD ?_ | refine zA ?_ _)); exact BK532.out) Tryz.underlying61 rfl (by kernel_rfl)) rfl ?_
       exact ⟨by first | rfl | (simp [errW_none, errW_some] <;> rfl) | (simp [*, errW_none, errW_some] <;> rfl), by repeat (first | (with_reducible first | exact HB.out | apply yA | apply yN | apply yD | refine below_set ?_ GE530.out | refine below_set ?_ GE531.out | refine below_set ?_ GE532.out) | exact HB.out)⟩
end Go.Proofs.YtmhobbdedmjmnaaGreatDoor.Q
end
