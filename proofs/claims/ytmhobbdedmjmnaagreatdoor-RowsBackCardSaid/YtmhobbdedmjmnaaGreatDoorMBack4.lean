/- Lemmas for the claim: contracts of functions and facts about what they compute, part 5 (texts put together, and cut down to what is used, by a program of ours). -/
import Derived.Test.YtmhobbdedmjmnaaGreatDoorMBack3
section
/- Each function reached is shown to return what the plain function beside it computes, wherever that is defined (written by a program of ours for this seat). -/
namespace Go.Proofs.YtmhobbdedmjmnaaGreatDoor.Q
open Go.RowKit Go.Proofs.YtmhobbdedmjmnaaGreatDoorW.PrintWords Go.Proofs.YtmhobbdedmjmnaaGreatDoorW.PrintLast Go.Proofs.YtmhobbdedmjmnaaGreatDoorW.PrintMore
attribute [local go_sem] max2_int min2_int max_two min_two max_three min_three max_four min_four   -- for this text's walks alone
set_option linter.unusedVariables false
set_option linter.unusedSimpArgs false
def tacticianref01_Int.f (a0 : Int) : Option (Int × Int × ByteArray) := some (1, a0, (⟨#[]⟩ : ByteArray))
set_option maxHeartbeats 8000000 in
set_option maxRecDepth 100000 in
theorem tacticianref01_Int.calls (a0 : Int) (r1 : Int) (r2 : Int) (r3 : ByteArray) (w : World) (h : tacticianref01_Int.f a0 = some (r1, r2, r3)) :
    Calls Tryz.prog 41 #[.int .i64 a0] w fun e w' => e = .returned (.agg #[.int .i64 r1, .int .i64 r2, .string r3]) ∧ Below w.heap.size w w' := by
  have hu61 := Tryz.underlying61
  have HB := Aside0.mk (Below.refl w.heap.size w)
  have H : (some (1, a0, (⟨#[]⟩ : ByteArray))) = some (r1, r2, r3) := h
  clear h
  simp only [Option.some.injEq, Prod.mk.injEq] at H
  obtain ⟨rfl, rfl, rfl⟩ := H
  go_enter Tryz.func41, Tryz.ntmps41
  go_wp2_with (first | ((with_reducible refine gate_dst (N := 2) rfl ?_); refine box_event ?hg (N := 2) ?hd (cs := #[.int .i64 0, .int .i64 0, .string (⟨#[]⟩ : ByteArray)]) (t := 61) ?hr ?_; (case hd => rfl); (case hg => rfl); (case hr => first | (go_simp; done) | (go_simp; rfl)); intro gb149 hg w2 hbox hb; have n0_ := Aside0.mk (below_step (by repeat (first | (with_reducible first | exact HB.out | apply yA | apply yN | apply yD) | exact HB.out)) hb); have n1_ := Aside0.mk (hbox); have n2_ := Aside0.mk ((by rw [hg]; exact (below_size (by repeat (first | (with_reducible first | exact HB.out | apply yA | apply yN | apply yD) | exact HB.out))) : w.heap.size ≤ gb149)); have n3_ := Aside0.mk ((by rw [hg]; exact (below_size (by repeat (first | (with_reducible first | exact HB.out | apply yA | apply yN | apply yD) | exact HB.out))) : w.heap.size ≤ gb149)); clear HB; have HB := n0_; have BK149 := n1_; have GW149 := n2_; have GE149 := n3_; clear n0_ n1_ n2_ n3_; clear hb hbox hg; have hcz3_0 : w2.cell? ⟨gb149, 0, none⟩ = some (.int .i64 0) := (blk_cell BK149.out 0).trans rfl; have hcz3_1 : w2.cell? ⟨gb149, 1, none⟩ = some (.int .i64 0) := (blk_cell BK149.out 1).trans rfl; have hcz3_2 : w2.cell? ⟨gb149, 2, none⟩ = some (.string (⟨#[]⟩ : ByteArray)) := (blk_cell BK149.out 2).trans rfl; have hfz3_0 := blk_frozen BK149.out 0; have hfz3_1 := blk_frozen BK149.out 1; have hfz3_2 := blk_frozen BK149.out 2))
  refine bodyPost_ret (results_cell_row rfl _ _ gb149 61 #[.int .i64 1, .int .i64 a0, .string (⟨#[]⟩ : ByteArray)] (0, 0) _ rfl (by (with_reducible repeat (first | refine zN ?_ _ | refine zD ?_ | refine zA ?_ _)); refine blk_put (cs := #[.int .i64 1, .int .i64 a0, .string (⟨#[]⟩ : ByteArray)]) ?_ 2 _ rfl; (with_reducible repeat (first | refine zN ?_ _ | refine zD ?_ | refine zA ?_ _)); refine blk_put (cs := #[.int .i64 1, .int .i64 0, .string (⟨#[]⟩ : ByteArray)]) ?_ 1 _ rfl; (with_reducible repeat (first | refine zN ?_ _ | refine zD ?_ | refine zA ?_ _)); refine blk_put (cs := #[.int .i64 0, .int .i64 0, .string (⟨#[]⟩ : ByteArray)]) ?_ 0 _ rfl; (with_reducible repeat (first | refine zN ?_ _ | refine zD ?_ | refine zA ?_ _)); exact BK149.out) Tryz.underlying61 rfl (by kernel_rfl)) rfl ?_
  exact ⟨by first | rfl | (simp [errW_none, errW_some] <;> rfl) | (simp [*, errW_none, errW_some] <;> rfl), by repeat (first | (with_reducible first | exact HB.out | apply yA | apply yN | apply yD | refine below_set ?_ GE149.out) | exact HB.out)⟩
def tacticianlaw02_row.l0 : Nat → List Int → List (S61) → Int → Option ((List (S61)))
  | 0, _, _, _ => none
  | k + 1, x0, x3, x4 => if x4 < (x0.length : Int) then (if 0 ≤ x4 then ((tacticianref01_Int.f (rd x0 x4)).bind fun bt151 => (if x3.length < 4398046511104 then (tacticianlaw02_row.l0 k x0 (x3 ++ [(⟨bt151.1, bt151.2.1, bt151.2.2⟩ : S61)]) (wrap64 (x4 + 1))) else (none))) else (none)) else (some x3)
def tacticianlaw02_row.f (k : Nat) (l0 : List Int) : Option ((List (S61))) := tacticianlaw02_row.l0 k l0 ([] : List (S61)) 0
set_option maxHeartbeats 8000000 in
set_option maxRecDepth 100000 in
theorem tacticianlaw02_row.calls (k : Nat) (A0 : Option Addr) (c0 : Nat) (l0 : List Int) (r : List (S61)) (w : World) (hr0 : Kd.C (Kd.int .i64) w A0 l0.length l0) (hc0 : l0.length ≤ c0) (h : tacticianlaw02_row.f k l0 = some r) :
    Calls Tryz.prog 57 #[.slice A0 l0.length c0] w fun e w' => ∃ v0_ : Value, e = .returned (v0_) ∧ Kd.R k61 61 w' w.heap.size (fun _ => True) v0_ r ∧ Below w.heap.size w w' := by
  have HR0 := Aside0.mk hr0
  have HC0 := Aside0.mk hc0
  clear hr0 hc0
  have HB := Aside0.mk (Below.refl w.heap.size w)
  have H : (tacticianlaw02_row.l0 k l0 ([] : List (S61)) 0) = some r := h
  clear h
  have H' := Aside0.mk H
  clear H
  go_enter Tryz.func57, Tryz.ntmps57
  go_wp2
  go_loopg [3, 4] k (fun kq v3 v4 w' => ∃ (x3_1 : List (S61)) (x4_1 : Int), v4 = .int .i64 x4_1 ∧ Aside0 (tacticianlaw02_row.l0 kq l0 x3_1 x4_1 = some r) ∧ Aside0 (kq ≤ k) ∧ Aside0 (Kd.R k61 61 w' w.heap.size (fun _ => True) v3 x3_1) ∧ Aside0 (Below w.heap.size w w'))
  case atStart => exact ⟨(([] : List (S61))), (0), (by first | rfl | (simp; done) | (simp [*]; done)), H', ⟨Nat.le_refl _⟩, ⟨by first | exact Kd.R_nil _ _ _ _ _ | exact Kd.N_nil _ _ _ _ _ | exact Kd.V_nil _ _ _ _ _ | exact Kd.Q_nil _ _ _ _ _ | exact Kd.S_nil _ _ _ _ _⟩, ⟨by repeat (first | (with_reducible first | exact HB.out | apply yA | apply yN | apply yD) | exact HB.out)⟩⟩
  case round =>
    clear H'
    obtain ⟨x3_1, x4_1, rfl, HA, HK1, HO_3, HB⟩ := hrel
    cases gk with
    | zero => exact absurd HA.out (by simp [tacticianlaw02_row.l0])
    | succ k1 =>
      have H := HA.out
      clear HA
      simp only [tacticianlaw02_row.l0] at H
      by_cases c2 : x4_1 < (l0.length : Int)
      · rw [if_pos c2] at H
        have c2b0 : decide (x4_1 < (l0.length : Int)) = true := decide_eq_true c2
        clear c2
        by_cases c3 : 0 ≤ x4_1
        · rw [if_pos c3] at H
          have c3b0 : decide (0 ≤ x4_1) = true := decide_eq_true c3
          clear c3
          replace H := Option.bind_eq_some_iff.mp H
          obtain ⟨⟨t151, t152, t153⟩, A40, H⟩ := H
          replace H : (if x3_1.length < 4398046511104 then (tacticianlaw02_row.l0 k1 l0 (x3_1 ++ [(⟨t151, t152, t153⟩ : S61)]) (wrap64 (x4_1 + 1))) else (none)) = some r := H
          have A4 := Aside0.mk A40
          clear A40
          by_cases c5 : x3_1.length < 4398046511104
          · rw [if_pos c5] at H
            have LMc5 := Aside0.mk c5
            clear c5
            obtain ⟨y154, hy154⟩ : ∃ y_ : List (S61), y_ = (x3_1 ++ [(⟨t151, t152, t153⟩ : S61)]) := ⟨_, rfl⟩
            replace H : (tacticianlaw02_row.l0 k1 l0 y154 (wrap64 (x4_1 + 1))) = some r := by first | (rw [hy154]; with_reducible exact H) | (have H2_ := (Option.bind_some _ _).symm.trans H; rw [hy154]; with_reducible exact H2_) | (have H2_ := (Option.bind_some _ _).symm.trans H; with_reducible exact H2_) | with_reducible exact H | (rw [hy154]; exact H) | exact H
            have Ny154 := Aside0.mk hy154
            clear hy154
            have H' := Aside0.mk H
            clear H
            have p150 : 0 ≤ (x4_1 : Int) := of_decide_eq_true (by first | (with_reducible assumption) | assumption)
            have q150 : x4_1 < (l0.length : Int) := of_decide_eq_true (by first | (with_reducible assumption) | assumption)
            obtain ⟨ad150, e150, hx150_0⟩ := Kd.at_int HR0.out x4_1 p150 q150
            cases e150
            replace hx150_0 := (HB.out.cell (World.block_lt_of_cell? w _ hx150_0)).trans hx150_0
            replace p150 := eq_true p150
            replace q150 := eq_true q150
            go_wp2_with (first | ((with_reducible refine gate_callee (f := 41) rfl ?_); refine goesL_ (some 16) rfl rfl Tryz.func41 (by kernel_rfl) rfl #[.int .i64 (rd l0 x4_1)] rfl (by (try simp only [List.map_toArray, List.map_cons, List.map_nil]); first | done | rfl | (simp only [List.length_drop, List.length_take]; rfl)) ?_; (with_reducible refine (tacticianref01_Int.calls (rd l0 x4_1) t151 t152 t153 _ A4.out).mono ?_); rintro e w6 ⟨rfl, hb⟩; refine ⟨_, rfl, ?_⟩; have n0_ := Aside0.mk (Kd.R_below (by (with_reducible repeat (first | apply Kd.R_alloc | apply Kd.R_drewN | apply Kd.R_drew)); exact HO_3.out) hb); have n1_ := Aside0.mk (below_step (by repeat (first | (with_reducible first | exact HB.out | apply yA | apply yN | apply yD) | exact HB.out)) hb); clear HO_3; clear HB; have HO_3 := n0_; have HB := n1_; clear n0_ n1_; (try clear hb); (try clear hb2); (try clear hk); (try clear hi)) | ((with_reducible refine gate_builtin (b := .append) (xs := #[.tmp 11, .tmp 17]) rfl ?_); at_builtin; refine Kd.R_append k61 (w0 := w) w.heap.size rfl (.tmp 11) (.tmp 17) 40 61 (.agg #[(.int .i64 0), (.int .i64 0), (.string ⟨#[]⟩)]) 32 rfl Tryz.underlying40 info61 rfl (by decide) (by omega) u3 x3_1 (⟨t151, t152, t153⟩ : S61) [.int .i64 t151, .int .i64 t152, .string t153] (fun _ => True) (fun _ => False) rfl rfl ?aP (fun _ hk => hk.elim) ?aF ?aO ?aB ?aS ?aL ?_; (case aP => exact k61_mkM _ _ _ (⟨t151, t152, t153⟩ : S61)); (case aB => exact (by repeat (first | (with_reducible first | exact HB.out | apply yA | apply yN | apply yD) | exact HB.out))); (case aF => exact (fun _ _ => trivial)); (case aO => exact (by (with_reducible repeat (first | apply Kd.R_alloc | apply Kd.R_drewN | apply Kd.R_drew)); exact HO_3.out)); (case aS => exact (below_size (by repeat (first | (with_reducible first | exact HB.out | apply yA | apply yN | apply yD) | exact HB.out)))); (case aL => have := LMc5.out; omega); intro v155 w7 ho hb hg hat; rw [← Ny154.out] at ho; have n0_ := Aside0.mk (hb); have n1_ := Aside0.mk (ho); clear HB; clear HO_3; have HB := n0_; have HO156 := n1_; clear n0_ n1_; clear ho hb hg hat))
            go_roundg k1
            case measure => have := HK1.out; omega
            case rel => exact ⟨(y154), (wrap64 (x4_1 + 1)), (by first | rfl | (simp; done) | (simp [*]; done)), H', ⟨by have := HK1.out; omega⟩, ⟨by (with_reducible repeat (first | apply Kd.R_alloc | apply Kd.R_drewN | apply Kd.R_drew)); exact HO156.out⟩, ⟨by repeat (first | (with_reducible first | exact HB.out | apply yA | apply yN | apply yD) | exact HB.out)⟩⟩
          · rw [if_neg c5] at H
            exact absurd H (by simp)
        · rw [if_neg c3] at H
          exact absurd H (by simp)
      · rw [if_neg c2] at H
        have c2b0 : decide (x4_1 < (l0.length : Int)) = false := decide_eq_false c2
        clear c2
        obtain rfl := Option.some.inj H
        go_wp2
        go_ret
        exact ⟨_, by first | rfl | (simp [errW_none, errW_some] <;> rfl) | (simp [*, errW_none, errW_some] <;> rfl), by (with_reducible repeat (first | apply Kd.R_alloc | apply Kd.R_drewN | apply Kd.R_drew)); exact HO_3.out, by repeat (first | (with_reducible first | exact HB.out | apply yA | apply yN | apply yD) | exact HB.out)⟩
set_option maxHeartbeats 1000000 in
theorem placeOut.calls (gb : Nat) (A : Option Addr) (n cc : Nat) (c : Int) (W : World) (hn : n ≤ 9223372036854775807) (hc : W.cell? ⟨gb, 0, none⟩ = some (.slice A n cc)) :
    Calls Tryz.prog 97 (#[.int .i64 c] ++ #[.pointer (some ⟨gb, 0, none⟩)]) W fun e w' => e = .returned (.bool (decide (c < 0) || decide ((n : Int) ≤ c))) ∧ Below W.heap.size W w' := by
  by_cases h0 : c < 0
  · have z0 : decide (c < 0) = true := decide_eq_true h0
    rw [z0, Bool.true_or]
    go_enter Tryz.func97, Tryz.ntmps97
    go_wp2
    go_ret
    exact ⟨rfl, Below.refl _ _⟩
  · have z0 : decide (c < 0) = false := decide_eq_false h0
    rw [z0, Bool.false_or]
    by_cases h1 : (n : Int) ≤ c
    · have z1 : decide ((n : Int) ≤ c) = true := decide_eq_true h1
      rw [z1]
      go_enter Tryz.func97, Tryz.ntmps97
      go_wp2
      go_ret
      exact ⟨rfl, Below.refl _ _⟩
    · have z1 : decide ((n : Int) ≤ c) = false := decide_eq_false h1
      rw [z1]
      go_enter Tryz.func97, Tryz.ntmps97
      go_wp2
      go_ret
      exact ⟨rfl, Below.refl _ _⟩
set_option maxRecDepth 100000 in
set_option maxHeartbeats 1000000 in
theorem idxFuncI.calls (p : Int → Bool) (g : Nat) (lb : Array Value) (eg : ∀ args w, (callFunc g args).run Tryz.prog w = .ok (.enter g args) w) (A0 : Option Addr) (c0 : Nat) (l0 : List Int) (w : World)
    (hr0 : Kd.C (Kd.int .i64) w A0 l0.length l0) (hlen : l0.length ≤ 4611686018427387904)
    (hp : ∀ x ∈ l0, ∀ (W : World), Below w.heap.size w W → Calls Tryz.prog g (#[.int .i64 x] ++ lb) W fun e w' => e = .returned (.bool (p x)) ∧ Below W.heap.size W w') :
    Calls Tryz.prog 125 #[.slice A0 l0.length c0, .func (.func g) #[] lb] w fun e w' => e = .returned (.int .i64 (idxF p l0)) ∧ Below w.heap.size w w' := by
  have hu61 := Tryz.underlying61
  have HR0 := Aside0.mk hr0
  have HP := Aside0.mk hp
  clear hr0 hp
  have HB := Aside0.mk (Below.refl w.heap.size w)
  obtain ⟨n, hn⟩ : ∃ n, n = l0.length := ⟨_, rfl⟩
  rw [← hn]
  have hle : n ≤ 4611686018427387904 := by omega
  have HN := Aside0.mk hn
  clear hn hlen
  go_enter Tryz.func125, Tryz.ntmps125
  go_wp2
  go_loopg [5, 8] n (fun gg _ s8 wr => ∃ kk : Nat, kk ≤ n ∧ n - kk ≤ gg ∧ s8 = .int .i64 kk ∧ Aside0 (Below w.heap.size w wr) ∧ Aside0 (∀ j (hj : j < kk) (hj2 : j < l0.length), p l0[j] = false))
  case atStart => exact ⟨0, Nat.zero_le _, by omega, rfl, HB, ⟨fun j hj => absurd hj (Nat.not_lt_zero _)⟩⟩
  case round =>
    clear HB
    obtain ⟨kk, hkk, hg, rfl, HB, HA⟩ := hrel
    by_cases hlt : kk < n
    · have hltz : (kk : Int) < (n : Int) := by omega
      have hlt' : kk < l0.length := by have := HN.out; omega
      obtain ⟨ad, e1, hcs⟩ := HR0.out.2.2 (by omega)
      cases e1
      obtain ⟨cs, hcs1, hcs2, hcs3⟩ := hcs kk l0[kk] (List.getElem?_eq_getElem hlt')
      have hcs2' : cs = [.int .i64 l0[kk]] := hcs2
      subst hcs2'
      have hx0 : w.cell? (ad.add kk) = some (.int .i64 l0[kk]) := by
        have h9 := hcs3 0 _ rfl
        rw [show kk * (Kd.int .i64).sz + 0 = kk from Nat.mul_one kk] at h9
        exact h9
      replace hx0 := (HB.out.cell (World.block_lt_of_cell? w _ hx0)).trans hx0
      have hcall := HP.out l0[kk] (List.getElem_mem hlt') wr HB.out
      have hy : l0[kk]? = some l0[kk] := List.getElem?_eq_getElem hlt'
      clear hcs3 hcs1 hcs2
      generalize l0[kk] = y at hx0 hcall hy
      have HY := Aside0.mk hy
      clear hy hlt'
      cases hq : p y with
      | true =>
        rw [hq] at hcall
        have HC := Aside0.mk hcall
        have HQ := Aside0.mk hq
        clear hcall hq
        go_wp2_with (go_at_fn g; refine HC.out.mono ?_; rintro e w' ⟨rfl, hb'⟩)
        go_ret
        refine ⟨?_, HB.out.trans (hb'.mono HB.out.size)⟩
        have hlt' : kk < l0.length := by have := HN.out; omega
        rw [idxF_hit p l0 kk hlt' (by rw [(List.getElem?_eq_some_iff.1 HY.out).2]; exact HQ.out) (fun j hj => HA.out j hj (by omega))]
        rfl
      | false =>
        rw [hq] at hcall
        have HC := Aside0.mk hcall
        have HQ := Aside0.mk hq
        clear hcall hq
        go_wp2_with (go_at_fn g; refine HC.out.mono ?_; rintro e w' ⟨rfl, hb'⟩)
        go_roundg (n - (kk + 1))
        case measure => omega
        case rel =>
          refine ⟨kk + 1, by omega, by omega, by go_num, ⟨HB.out.trans (hb'.mono HB.out.size)⟩, ⟨fun j hj hj2 => ?_⟩⟩
          by_cases e : j = kk
          · subst e
            rw [(List.getElem?_eq_some_iff.1 HY.out).2]; exact HQ.out
          · exact HA.out j (by omega) hj2
    · have hltz : decide (kk < n) = false := by simpa using hlt
      have HE : Aside0 (kk = n) := ⟨by omega⟩
      clear hlt
      go_wp2
      go_ret
      refine ⟨?_, HB.out⟩
      rw [idxF_miss p l0 (fun j hj => HA.out j (by have := HN.out; have := HE.out; omega) hj)]
      rfl
theorem contFuncI.calls (p : Int → Bool) (g : Nat) (lb : Array Value) (eg : ∀ args w, (callFunc g args).run Tryz.prog w = .ok (.enter g args) w) (A0 : Option Addr) (c0 : Nat) (l0 : List Int) (w : World)
    (hr0 : Kd.C (Kd.int .i64) w A0 l0.length l0) (hlen : l0.length ≤ 4611686018427387904)
    (hp : ∀ x ∈ l0, ∀ (W : World), Below w.heap.size w W → Calls Tryz.prog g (#[.int .i64 x] ++ lb) W fun e w' => e = .returned (.bool (p x)) ∧ Below W.heap.size W w') :
    Calls Tryz.prog 96 #[.slice A0 l0.length c0, .func (.func g) #[] lb] w fun e w' => e = .returned (.bool (l0.any p)) ∧ Below w.heap.size w w' := by
  have hc := idxFuncI.calls p g lb eg A0 c0 l0 w hr0 hlen hp
  have HE := Aside0.mk (idxF_nonneg p l0)
  clear hr0 hp
  generalize idxF p l0 = r at hc HE
  rw [← HE.out]
  go_enter Tryz.func96, Tryz.ntmps96
  go_wp2_with (go_at_call 125; refine hc.mono ?_; rintro e w' ⟨rfl, hb'⟩)
  go_ret
  exact ⟨rfl, hb'⟩
set_option maxHeartbeats 1000000 in
theorem placesRow.calls (gb : Nat) (B : Option Addr) (cb : Nat) (by_ : List Int) (A : Option Addr) (n cc : Nat) (W : World) (hn : n ≤ 9223372036854775807) (hc : W.cell? ⟨gb, 0, none⟩ = some (.slice B by_.length cb)) (hC : Kd.C (Kd.int .i64) W B by_.length by_) (hl : by_.length ≤ 4611686018427387904) :
    Calls Tryz.prog 95 (#[.slice A n cc] ++ #[.pointer (some ⟨gb, 0, none⟩)]) W fun e w' => e = .returned (.bool (by_.any fun c => decide (c < 0) || decide ((n : Int) ≤ c))) ∧ Below W.heap.size W w' := by
  have eg : ∀ args w, (callFunc 97 args).run Tryz.prog w = .ok (.enter 97 args) w := enters_of Tryz.func97 (by kernel_rfl) rfl
  have hb : Below W.heap.size W (W.alloc (.cells #[.slice A n cc] 40)) := below_alloc (Below.refl _ _) _
  have hcall := contFuncI.calls (fun c => decide (c < 0) || decide ((n : Int) ≤ c)) 97 #[.pointer (some ⟨W.heap.size, 0, none⟩)] eg B cb by_ (W.alloc (.cells #[.slice A n cc] 40)) (Kd.C_below hC hb) hl (fun x _ W' hb' => placeOut.calls W.heap.size A n cc x W' hn (blk_cell (blk_below (blk_new W _) hb') 0))
  have HC := Aside0.mk hcall
  have hc2 : (W.alloc (.cells #[.slice A n cc] 40)).cell? ⟨gb, 0, none⟩ = some (.slice B by_.length cb) := Lib.cell?_alloc_some _ hc
  clear hcall hC hl hc
  generalize (by_.any fun c => decide (c < 0) || decide ((n : Int) ≤ c)) = b at HC ⊢
  generalize by_.length = m at HC hc2
  go_enter Tryz.func95, Tryz.ntmps95
  go_wp2_with (go_at_call 96; refine HC.out.mono ?_; rintro e w' ⟨rfl, hb'⟩)
  go_ret
  exact ⟨rfl, below_step hb hb'⟩
def rows_places.f (l0 : List (List V)) (l1 : List Int) : Option Bool := if l0.length ≤ 4611686018427387904 ∧ l1.length ≤ 4611686018427387904 then some (placesB l0 l1) else none
set_option maxHeartbeats 1000000 in
theorem rows_places.calls (A0 : Option Addr) (c0 : Nat) (l0 : List (List V)) (A1 : Option Addr) (c1 : Nat) (l1 : List Int) (r : Bool) (w : World) (hr0 : Kd.C (Kd.slice 61 k61) w A0 l0.length l0) (hc0 : l0.length ≤ c0) (hr1 : Kd.C (Kd.int .i64) w A1 l1.length l1) (hc1 : l1.length ≤ c1) (h : rows_places.f l0 l1 = some r) :
    Calls Tryz.prog 58 #[.slice A0 l0.length c0, .slice A1 l1.length c1] w fun e w' => e = .returned (.bool r) ∧ Below w.heap.size w w' := by
  unfold rows_places.f at h
  by_cases hs : l0.length ≤ 4611686018427387904 ∧ l1.length ≤ 4611686018427387904
  case neg => rw [if_neg hs] at h; cases h
  rw [if_pos hs] at h
  obtain rfl := Option.some.inj h
  clear h
  have eg : ∀ args w, (callFunc 95 args).run Tryz.prog w = .ok (.enter 95 args) w := enters_of Tryz.func95 (by kernel_rfl) rfl
  have hb : Below w.heap.size w (w.alloc (.cells #[.slice A1 l1.length c1] 34)) := below_alloc (Below.refl _ _) _
  have hcall := contFuncR.calls (fun x => l1.any fun c => decide (c < 0) || decide ((x.length : Int) ≤ c)) 95 #[.pointer (some ⟨w.heap.size, 0, none⟩)] eg A0 c0 l0 (w.alloc (.cells #[.slice A1 l1.length c1] 34)) (Kd.C_below hr0 hb) hs.1 (fun x _ A c W' hxc hCx hb' => placesRow.calls w.heap.size A1 c1 l1 A x.length c W' hCx.2.1 (blk_cell (blk_below (blk_new w _) hb') 0) (Kd.C_below hr1 (below_step hb hb')) hs.2)
  have HC := Aside0.mk hcall
  unfold placesB
  clear hcall hr0 hr1 hc0 hc1 hs
  generalize (l0.any fun x => l1.any fun c => decide (c < 0) || decide ((x.length : Int) ≤ c)) = b at HC ⊢
  generalize l0.length = n at HC ⊢
  generalize l1.length = m at HC hb ⊢
  cases b
  all_goals
    go_enter Tryz.func58, Tryz.ntmps58
    go_wp2_with (go_at_call 68; refine HC.out.mono ?_; rintro e w' ⟨rfl, hb'⟩)
    go_ret
    exact ⟨rfl, below_step hb hb'⟩
/-! ### rows_By_1: function 100 -/
section
open Go.Sort
abbrev KK := S36
theorem rd_atK (l : List KK) (k : Nat) (h : k < l.length) : rd_T36 l (k : Int) = l[k] := by
  unfold rd_T36
  simp [h]
/-- keys, in plain words -/
def keysOf (l : List KK) : List (Int × Bool) := l.map fun k => (k.f0, k.f1)
theorem belowD_grownW {B : Nat} {w W : World} (h : BelowD B w W) (hB : B ≤ W.heap.size) (n : Nat) (os : Array Obj) : BelowD B w (grow (W.drewN n) os) := ⟨below_grownW h.b hB n os, Nat.le_trans h.d (Nat.le_add_right _ _)⟩
set_option maxHeartbeats 4000000 in
set_option maxRecDepth 100000 in
theorem byKeys.calls (gb : Nat) (K : Option Addr) (ck : Nat) (ks : List KK) (A0 A1 : Option Addr) (c0 c1 : Nat) (a b : List V) (w : World) (hc : w.cell? ⟨gb, 0, none⟩ = some (.slice K ks.length ck)) (hK : Kd.C k36 w K ks.length ks)
    (hA : Kd.C k61 w A0 a.length a) (hB : Kd.C k61 w A1 b.length b) (la : a.length ≤ 4611686018427387904) (lb : b.length ≤ 4611686018427387904) (lk : ks.length ≤ 4611686018427387904) (hp : ∀ k ∈ ks, 0 ≤ k.f0 ∧ k.f0 < a.length ∧ k.f0 < b.length) :
    Calls Tryz.prog 100 (#[.slice A0 a.length c0, .slice A1 b.length c1] ++ #[.pointer (some ⟨gb, 0, none⟩)]) w fun e w' => e = .returned (.int .i64 (cfK (keysOf ks) a b)) ∧ BelowD w.heap.size w w' := by
  have mixed : Tryz.prog.follows .mixedOrders = true := by kernel_rfl
  have hu61 := Tryz.underlying61
  have hu36 := Tryz.underlying36
  have HK := Aside0.mk hK
  have HA := Aside0.mk hA
  have HB0 := Aside0.mk hB
  have HP := Aside0.mk hp
  have HOR := Aside0.mk (fun W (hb : Below w.heap.size w W) => rows_Order.grows A0 A1 c0 c1 a b (cfR a b) W (Kd.C_below hA hb) (Kd.C_below hB hb) (by unfold rows_Order.f; rw [if_pos ⟨la, lb⟩]))
  have HB := Aside0.mk (BelowD.refl w.heap.size w)
  clear hK hA hB hp la lb
  obtain ⟨n, hn⟩ : ∃ n, n = ks.length := ⟨_, rfl⟩
  rw [← hn] at hc
  have hle : n ≤ 4611686018427387904 := by omega
  have HN := Aside0.mk hn
  clear hn lk
  obtain ⟨na, hna⟩ : ∃ na, na = a.length := ⟨_, rfl⟩
  obtain ⟨nb, hnb⟩ : ∃ nb, nb = b.length := ⟨_, rfl⟩
  rw [← hna, ← hnb] at HOR ⊢
  have HNA := Aside0.mk hna
  have HNB := Aside0.mk hnb
  clear hna hnb
  go_enter Tryz.func100, Tryz.ntmps100
  go_wp2
  clear hc
  go_loopg [7, 8, 11] n (fun gg _ _ s11 wr => ∃ kk : Nat, kk ≤ n ∧ n - kk ≤ gg ∧ s11 = .int .i64 kk ∧ Aside0 (BelowD w.heap.size w wr) ∧ Aside0 (cfK (keysOf ks) a b = cfK (keysOf (ks.drop kk)) a b))
  case atStart => exact ⟨0, Nat.zero_le _, by omega, rfl, HB, ⟨rfl⟩⟩
  case round =>
    clear HB
    obtain ⟨kk, hkk, hg, rfl, HB, HA2⟩ := hrel
    by_cases hlt : kk < n
    · have hltz : (kk : Int) < (n : Int) := by omega
      have hlt' : kk < ks.length := by have := HN.out; omega
      obtain ⟨ad, e1, hx0, hx1⟩ := at_T36 HK.out (kk : Int) (by omega) (by omega)
      cases e1
      rw [rd_atK _ _ hlt'] at hx0 hx1
      simp only [Int.toNat_natCast] at hx0 hx1
      replace hx0 := cell_keeps HB.out.b hx0
      replace hx1 := cell_keeps HB.out.b hx1
      have hkr := HP.out ks[kk] (List.getElem_mem hlt')
      have EK := Aside0.mk (List.drop_eq_getElem_cons hlt')
      generalize ks[kk] = x at hx0 hx1 hkr EK
      obtain ⟨col, desc⟩ := x
      dsimp only at hx0 hx1 hkr
      have r0 : 0 ≤ col := hkr.1
      have r1 : col < (na : Int) := by have := HNA.out; omega
      have r2 : col < (nb : Int) := by have := HNB.out; omega
      obtain ⟨aa, ea, ha0, ha1, ha2⟩ := at_T61 HA.out col r0 (by omega)
      cases ea
      obtain ⟨ba, eb, hb0, hb1, hb2⟩ := at_T61 HB0.out col r0 (by omega)
      cases eb
      have eA : rd_T61 a col = atR a col := rfl
      have eB : rd_T61 b col = atR b col := rfl
      rw [eA] at ha0 ha1 ha2
      rw [eB] at hb0 hb1 hb2
      generalize hxx : atR a col = x at ha0 ha1 ha2
      generalize hyy : atR b col = y at hb0 hb1 hb2
      have EX := Aside0.mk (And.intro hxx hyy)
      clear hxx hyy hkr hlt' eA eB
      have HB1 := Aside0.mk (dA HB.out (.cells #[.int .i64 col, .bool desc] 36))
      have hbox := blk_new wr (.cells #[.int .i64 col, .bool desc] 36)
      have hsz := HB1.out.b.size
      have cg : ∀ (ad : Addr) (v : Value), w.cell? ad = some v → ∀ q os, (grow ((wr.alloc (.cells #[.int .i64 col, .bool desc] 36)).drewN q) os).cell? ad = some v := fun ad v h q os => cell_keeps (below_grownW HB1.out.b hsz q os) h
      have ca0 := cg _ _ ha0
      have ca1 := cg _ _ ha1
      have ca2 := cg _ _ ha2
      have cb0 := cg _ _ hb0
      have cb1 := cg _ _ hb1
      have cb2 := cg _ _ hb2
      have ck0 : ∀ q os, (grow ((wr.alloc (.cells #[.int .i64 col, .bool desc] 36)).drewN q) os).cell? ⟨wr.heap.size, 0, none⟩ = some (.int .i64 col) := fun q os => cell_keeps (below_grownW (Below.refl _ _) (Nat.le_refl _) q os) (blk_cell hbox 0)
      have ck1 : ∀ q os, (grow ((wr.alloc (.cells #[.int .i64 col, .bool desc] 36)).drewN q) os).cell? ⟨wr.heap.size, 1, none⟩ = some (.bool desc) := fun q os => cell_keeps (below_grownW (Below.refl _ _) (Nat.le_refl _) q os) (blk_cell hbox 1)
      clear cg ha0 ha1 ha2 hb0 hb1 hb2 hbox hsz
      have hcg : ∀ q os, Calls Tryz.prog 101 #[.agg #[.int .i64 x.f0, .int .i64 x.f1, .string x.f2], .agg #[.int .i64 y.f0, .int .i64 y.f1, .string y.f2]] (grow ((wr.alloc (.cells #[.int .i64 col, .bool desc] 36)).drewN q) os) fun e w' => e = .returned (.int .i64 (cfV x y)) ∧ ∃ q' os', w' = grow ((grow ((wr.alloc (.cells #[.int .i64 col, .bool desc] 36)).drewN q) os).drewN q') os' := fun q os =>
        (value_Order.grows 4 x.f0 x.f1 x.f2 y.f0 y.f1 y.f2 (cfV x y) _ (by rw [value_Order.at]; rfl)).mono fun _ _ ⟨he, hb⟩ => ⟨he, hb.grown⟩
      have hcv := cfV_cases x y
      have HE : Aside0 (cfK (keysOf ks) a b = if (if desc = true then - cfV x y else cfV x y) ≠ 0 then (if desc = true then - cfV x y else cfV x y) else cfK (keysOf (ks.drop (kk + 1))) a b) := ⟨by
        rw [HA2.out, EK.out]
        show cfK ((col, desc) :: keysOf (ks.drop (kk + 1))) a b = _
        rw [cfK_cons]
        dsimp only
        rw [EX.out.1, EX.out.2]⟩
      generalize cfV x y = c at hcg hcv HE
      have QC : (c = 0 ∧ Aside0 (cfK (keysOf ks) a b = cfK (keysOf (ks.drop (kk + 1))) a b)) ∨ ((c = 1 ∨ c = -1) ∧ Aside0 (cfK (keysOf ks) a b = if desc = true then - c else c)) := by
        rcases hcv with h | h | h
        · refine .inr ⟨.inr h, ⟨?_⟩⟩
          rw [HE.out, h]; cases desc <;> rfl
        · refine .inl ⟨h, ⟨?_⟩⟩
          rw [HE.out, h]; cases desc <;> rfl
        · refine .inr ⟨.inl h, ⟨?_⟩⟩
          rw [HE.out, h]; cases desc <;> rfl
      clear HE hcv
      go_wp2_with fail
      go_quiet_grown (first | (go_at_call 101; refine Calls.grown_of (hcg _ _)))
      have HB3 := Aside0.mk (belowD_grownW HB1.out HB1.out.b.size nq osq)
      have dk1 := ck1 nq osq
      clear ca0 ca1 ca2 cb0 cb1 cb2 ck0 ck1 hcg HB1
      generalize grow ((wr.alloc (.cells #[.int .i64 col, .bool desc] 36)).drewN nq) osq = w3 at HB3 dk1 ⊢
      rcases QC with ⟨rfl, HE⟩ | ⟨rfl | rfl, HE⟩
      · cases desc
        all_goals
          go_wp2
          go_roundg (n - (kk + 1))
          case measure => omega
          case rel => exact ⟨kk + 1, by omega, by omega, by go_num, HB3, HE⟩
      · cases desc
        all_goals
          go_wp2
          go_ret
          exact ⟨by rw [HE.out]; rfl, HB3.out⟩
      · cases desc
        all_goals
          go_wp2
          go_ret
          exact ⟨by rw [HE.out]; rfl, HB3.out⟩
    · have hltz : decide (kk < n) = false := by simpa using hlt
      have HE : Aside0 (cfK (keysOf ks) a b = cfR a b) := ⟨by
        rw [HA2.out, List.drop_of_length_le (by have := HN.out; omega)]; rfl⟩
      clear hlt HA2
      generalize cfR a b = r at HOR HE
      go_wp2_with (go_at_call 63; refine (HOR.out _ HB.out.b).mono ?_; rintro e w' ⟨rfl, hb'⟩)
      go_ret
      exact ⟨by rw [HE.out]; rfl, belowD_step HB.out hb'⟩
end
theorem byFn.calls (K : Option Addr) (n ck : Nat) (w : World) : Calls Tryz.prog 61 #[.slice K n ck] w fun e w' => e = .returned (.func (.func 100) #[] #[.pointer (some ⟨w.heap.size, 0, none⟩)]) ∧ w' = w.alloc (.cells #[.slice K n ck] 32) := by
 go_enter Tryz.func61, Tryz.ntmps61
 go_wp2
 go_ret
 exact ⟨rfl, rfl⟩
end Go.Proofs.YtmhobbdedmjmnaaGreatDoor.Q
end
section
/- Each function reached is shown to return what the plain function beside it computes, wherever that is defined (written by a program of ours for this seat). -/
namespace Go.Proofs.YtmhobbdedmjmnaaGreatDoor.Q
open Go.RowKit Go.Proofs.YtmhobbdedmjmnaaGreatDoorW.PrintWords Go.Proofs.YtmhobbdedmjmnaaGreatDoorW.PrintLast Go.Proofs.YtmhobbdedmjmnaaGreatDoorW.PrintMore
attribute [local go_sem] max2_int min2_int max_two min_two max_three min_three max_four min_four   -- for this text's walks alone
set_option linter.unusedVariables false
set_option linter.unusedSimpArgs false
/-! ### rows_Ordered: function 22 -/
section
open Go.Sort
variable {ops : Array Oper} {rest : List Oper} {o : Oper} {a : Act} {Q : Exit → Act → World → Prop}
theorem append_int {W : World} {base : Nat} (hgd : o.guard = none) (s x : Operand) (ho : o.op = .call { callee := .builtin .append, args := #[s, x], argTypes := #[34, 34] })
    (v : Value) (xs : List Int) (p : Int) (hs : a.eval s = v) (hx : a.eval x = .slice (some ⟨W.heap.size, 0, none⟩) 1 1)
    (HO : Kd.R (Kd.int .i64) 3 W base (fun _ => True) v xs) (hbase : base ≤ W.heap.size) (hl : xs.length ≤ 5000000)
    (h : ∀ v1 w1, Kd.R (Kd.int .i64) 3 w1 base (fun _ => True) v1 (xs ++ [p]) → Below base W w1 → wpList Tryz.prog ops Q rest (a.put o.dst v1) w1) :
    wpList Tryz.prog ops Q (o :: rest) a (W.alloc (.cells #[.int .i64 p] 3)) := by
  refine Kd.R_append (Kd.int .i64) (w0 := W) base hgd s x 34 3 (.int .i64 0) 8 ho Tryz.underlying34 (by kernel_rfl) rfl (by decide) (by omega) v xs p [.int .i64 p] (fun _ => True) (fun _ => False) hs hx rfl (fun _ hk => hk.elim) (fun _ _ => trivial) HO (Below.refl _ _) hbase (by omega) (fun v1 w1 h1 h2 _ _ => h v1 w1 h1 h2)
/-- the rows in the order of keys -/
theorem sortKeys.calls (gb : Nat) (K : Option Addr) (ck : Nat) (ks : List KK) (v : Value) (xs : List (List V)) (w0 w : World) (hb : Below w0.heap.size w0 w) (hbox : w.heap[gb]? = some (.cells #[.slice K ks.length ck] 32 (0, 0))) (hK : Kd.C k36 w0 K ks.length ks)
    (h : Kd.S (Kd.slice 61 k61) 40 w w0.heap.size (fun _ => True) v xs) (hl : okR xs = true) (lk : ks.length ≤ 1000000) (hp : placesB xs (ks.map fun k => k.f0) = true) :
    Calls Tryz.prog 60 #[v, .func (.func 100) #[] #[.pointer (some ⟨gb, 0, none⟩)]] w fun e' w' => e' = .returned (.tuple #[]) ∧ Kd.S (Kd.slice 61 k61) 40 w' w0.heap.size (fun _ => True) v (sortBy (cfK (keysOf ks)) xs) ∧ w.grownBy w' v.ownBlock ∧ (∀ (B : Nat) (w1 : World), B ≤ w0.heap.size → Below B w1 w → B ≤ w.heap.size → Below B w1 w') := by
  have hl' := okR_spec hl
  have eg : ∀ args w, (callFunc 100 args).run Tryz.prog w = .ok (.enter 100 args) w := enters_of Tryz.func100 (by kernel_rfl) rfl
  have hk36 : Kd.Heap k36 := Kd.heap_iso _ (Kd.heap_pair (Kd.heap_int _) Kd.heap_bool)
  have hin : ∀ x ∈ xs, ∀ k ∈ ks, 0 ≤ k.f0 ∧ k.f0 < (x.length : Int) := fun x hx k hk => by
    unfold placesB at hp
    have h1 : (xs.any fun x => (ks.map fun k => k.f0).any fun c => decide (c < 0) || decide ((x.length : Int) ≤ c)) = false := by simpa using hp
    have h2 := (List.any_eq_false.1 h1) x hx
    have h3 : ((ks.map fun k => k.f0).any fun c => decide (c < 0) || decide ((x.length : Int) ≤ c)) = false := by simpa using h2
    have h4 := (List.any_eq_false.1 h3) k.f0 (List.mem_map.2 ⟨k, hk, rfl⟩)
    rw [Bool.not_eq_true, Bool.or_eq_false_iff] at h4
    have h5 := of_decide_eq_false h4.1
    have h6 := of_decide_eq_false h4.2
    omega
  have hc := sortS Tryz.sortR (Kd.slice 61 k61) rfl 40 (cfK (keysOf ks)) (cfK_tc _) 100 #[.pointer (some ⟨gb, 0, none⟩)] eg v xs w w0.heap.size _ h (by have := hl'.1; omega) (fun x y cx cy W hx hy hMx hMy hW => by
    obtain ⟨A0, c0, rfl, _, hC0⟩ := M_row_reads hMx
    obtain ⟨A1, c1, rfl, _, hC1⟩ := M_row_reads hMy
    have hcell : W.heap[gb]? = _ := (hW gb (blk_lt hbox) (Kd.S_ne h hbox (by decide))).trans hbox
    have hKW : Kd.C k36 W K ks.length ks := hk36.C (fun k hk => (hW k (Nat.lt_of_lt_of_le hk hb.size) (fun e => by have := Kd.S_base h k e.symm; omega)).trans (hb.block k hk)) hK
    exact byKeys.calls gb K ck ks A0 A1 c0 c1 x y W (blk_cell hcell 0) hKW hC0 hC1 (by have := hl'.2 x hx; omega) (by have := hl'.2 y hy; omega) (by omega) (fun k hk => ⟨(hin x hx k hk).1, (hin x hx k hk).2, (hin y hy k hk).2⟩))
  change Calls Tryz.prog 60 _ _ _ at hc
  exact hc
end
def rows_Ordered.f (l0 : List (List V)) (l1 : List KK) : Option (List (List V) × Int) := if smallE [l0] = 0 then (if okR l0 = true ∧ l1.length ≤ 1000000 then (if placesB l0 (l1.map fun k => k.f0) = true then some (sortBy (cfK (keysOf l1)) l0, 0) else some ([], 1)) else none) else some ([], smallE [l0])
set_option maxRecDepth 100000 in
set_option maxHeartbeats 4000000 in
theorem rows_Ordered.calls (A0 : Option Addr) (c0 : Nat) (l0 : List (List V)) (A1 : Option Addr) (c1 : Nat) (l1 : List KK) (r1 : List (List V)) (r2 : Int) (w : World) (hr0 : Kd.C (Kd.slice 61 k61) w A0 l0.length l0) (hc0 : l0.length ≤ c0) (hr1 : Kd.C k36 w A1 l1.length l1) (hc1 : l1.length ≤ c1) (h : rows_Ordered.f l0 l1 = some (r1, r2)) :
    Calls Tryz.prog 22 #[.slice A0 l0.length c0, .slice A1 l1.length c1] w fun e w' => ∃ v0_ : Value, e = .returned (.tuple #[v0_, .int .i64 r2]) ∧ Kd.S (Kd.slice 61 k61) 40 w' w.heap.size (fun _ => True) v0_ r1 ∧ Below w.heap.size w w' := by
  unfold rows_Ordered.f at h
  have HS := Aside0.mk (fun W hb => small_one A0 c0 l0 w W hr0 hc0 hb)
  by_cases hs : smallE [l0] = 0
  case neg =>
    rw [if_neg hs] at h
    simp only [Option.some.injEq, Prod.mk.injEq] at h
    obtain ⟨rfl, rfl⟩ := h
    have hs2 : (smallE [l0] != 0) = true := by simpa using hs
    clear hr0 hc0 hr1 hc1 hs
    generalize smallE [l0] = x at HS hs2 ⊢
    generalize l0.length = n0 at HS ⊢
    generalize l1.length = n1 at *
    go_enter Tryz.func22, Tryz.ntmps22
    go_wp2_with (go_at_call 52; refine (HS.out _ (Below.refl _ _)).mono ?_; rintro e w1 ⟨rfl, hb1⟩)
    go_ret2
    exact ⟨_, rfl, Kd.S_nil _ _ _ _ _, hb1⟩
  rw [if_pos hs] at h
  by_cases hk : okR l0 = true ∧ l1.length ≤ 1000000
  case neg => rw [if_neg hk] at h; cases h
  rw [if_pos hk] at h
  rw [hs] at HS
  have hu36 := Tryz.underlying36
  have HPL := Aside0.mk (fun W (hb : Below w.heap.size w W) A c (hC : Kd.C (Kd.int .i64) W A (l1.map fun k => k.f0).length (l1.map fun k => k.f0)) hcc => rows_places.calls A0 c0 l0 A c (l1.map fun k => k.f0) (placesB l0 (l1.map fun k => k.f0)) W (Kd.C_below hr0 hb) hc0 hC hcc (by
    unfold rows_places.f
    have := (okR_spec hk.1).1
    have := hk.2
    rw [List.length_map, if_pos ⟨by omega, by omega⟩]))
  have HCP := Aside0.mk (fun W (hb : Below w.heap.size w W) => rows_Copy_s.calls A0 c0 l0 l0 W (Kd.C_below hr0 hb) hc0 (by unfold rows_Copy_s.f; rw [if_pos hk.1]))
  have HR1 := Aside0.mk hr1
  have HOK := Aside0.mk hk
  have H := Aside0.mk h
  clear hr0 hc0 hr1 hc1 hs hk h
  generalize l0.length = n0 at HS HPL HCP ⊢
  obtain ⟨n, hn⟩ : ∃ n, n = l1.length := ⟨_, rfl⟩
  rw [← hn]
  have hle : n ≤ 1000000 := by have := HOK.out.2; omega
  have HN := Aside0.mk hn
  clear hn
  go_enter Tryz.func22, Tryz.ntmps22
  go_wp2_with (go_at_call 52; refine (HS.out _ (Below.refl _ _)).mono ?_; rintro e w1 ⟨rfl, hb1⟩; have HB1 := Aside0.mk hb1; clear hb1)
  go_loopg [7, 9, 19] n (fun gg s7 _ s19 wr => ∃ kk : Nat, kk ≤ n ∧ n - kk ≤ gg ∧ s19 = .int .i64 kk ∧ Aside0 (Below w.heap.size w wr) ∧ Aside0 (Kd.R (Kd.int .i64) 3 wr w.heap.size (fun _ => True) s7 ((l1.take kk).map fun k => k.f0)))
  case atStart => exact ⟨0, Nat.zero_le _, by omega, rfl, HB1, ⟨Kd.R_nil _ _ _ _ _⟩⟩
  case round =>
    clear HB1 HS
    obtain ⟨kk, hkk, hg, rfl, HB, HO⟩ := hrel
    obtain ⟨Ao, co, eo⟩ := Kd.R_slice HO.out
    subst eo
    obtain ⟨m, hm⟩ : ∃ m, m = ((l1.take kk).map fun k => k.f0).length := ⟨_, rfl⟩
    rw [← hm] at HO ⊢
    have HM : Aside0 (((l1.take kk).map fun k => k.f0).length ≤ 1000000) := ⟨by rw [List.length_map, List.length_take]; omega⟩
    by_cases hlt : kk < n
    · clear hm
      have hltz : (kk : Int) < (n : Int) := by omega
      have hlt' : kk < l1.length := by have := HN.out; omega
      obtain ⟨ad, e1, hx0, hx1⟩ := at_T36 HR1.out (kk : Int) (by omega) (by omega)
      cases e1
      rw [rd_atK _ _ hlt'] at hx0 hx1
      simp only [Int.toNat_natCast] at hx0 hx1
      replace hx0 := cell_keeps HB.out hx0
      replace hx1 := cell_keeps HB.out hx1
      have EK : Aside0 ((l1.take (kk + 1)).map (fun k => k.f0) = (l1.take kk).map (fun k => k.f0) ++ [l1[kk].f0]) := ⟨by
        rw [List.take_add_one, List.getElem?_eq_getElem hlt', List.map_append]; rfl⟩
      generalize l1[kk] = x at hx0 hx1 EK
      obtain ⟨col, desc⟩ := x
      dsimp only at hx0 hx1 EK
      clear hlt'
      go_wp2_with (at_builtin; refine append_int rfl _ _ rfl _ _ col rfl (by first | (go_simp; done) | (go_simp; rfl)) (Kd.R_alloc HO.out _) (below_alloc HB.out _).size (by have := HM.out; omega) ?_; intro v2 w2 ho2 hb2; have HO2 := Aside0.mk ho2; have HB2 := Aside0.mk ((below_alloc HB.out _).trans hb2); clear ho2 hb2)
      go_roundg (n - (kk + 1))
      case measure => omega
      case rel =>
        refine ⟨kk + 1, by omega, by omega, by go_num, HB2, ⟨?_⟩⟩
        rw [EK.out]
        exact HO2.out
    · have hltz : decide (kk < n) = false := by simpa using hlt
      have HM2 : Aside0 (m = (l1.map fun k => k.f0).length) := ⟨by rw [hm, List.take_of_length_le (by have := HN.out; omega)]⟩
      have HO2 : Aside0 (Kd.C (Kd.int .i64) wr Ao (l1.map fun k => k.f0).length (l1.map fun k => k.f0) ∧ (l1.map fun k => k.f0).length ≤ co) := ⟨by
        have h9 := HO.out
        rw [List.take_of_length_le (by have := HN.out; omega)] at h9
        have h8 := Kd.R_reads' h9
        exact ⟨h8.2.2, by have := h8.1; have := h8.2.1; omega⟩⟩
      have HPC := Aside0.mk (HPL.out wr HB.out Ao co HO2.out.1 HO2.out.2)
      rw [← HM2.out] at HPC
      clear hlt HO hm HO2 HPL
      cases hpb : placesB l0 (l1.map fun k => k.f0) with
      | false =>
        have h := H.out
        rw [hpb, if_neg (by decide)] at h
        simp only [Option.some.injEq, Prod.mk.injEq] at h
        obtain ⟨rfl, rfl⟩ := h
        rw [hpb] at HPC
        clear H hpb
        go_wp2_with (go_at_call 58; refine HPC.out.mono ?_; rintro e w' ⟨rfl, hb'⟩; have HB' := Aside0.mk (below_step HB.out hb'); clear hb')
        go_ret2
        exact ⟨_, rfl, Kd.S_nil _ _ _ _ _, HB'.out⟩
      | true =>
        have h := H.out
        rw [hpb, if_pos rfl] at h
        simp only [Option.some.injEq, Prod.mk.injEq] at h
        obtain ⟨rfl, rfl⟩ := h
        rw [hpb] at HPC
        have HPB := Aside0.mk hpb
        clear H hpb
        go_wp2_with (first
          | (go_at_call 58; refine HPC.out.mono ?_; rintro e w2 ⟨rfl, hb2⟩; have HB2 := Aside0.mk (below_step HB.out hb2); clear hb2)
          | (go_at_call 59; refine (HCP.out _ HB2.out).mono ?_; rintro e w3 ⟨v3, rfl, hv3, hb3⟩; have HV3 := Aside0.mk (Kd.S_lower hv3 HB2.out.size); have HB3 := Aside0.mk (below_step HB2.out hb3); clear hv3 hb3)
          | (go_at_call 61; refine (byFn.calls _ _ _ _).mono ?_; rintro e w4 ⟨rfl, rfl⟩)
          | (go_at_call 60; rw [HN.out]; refine (sortKeys.calls w3.heap.size A1 c1 l1 _ _ w _ (below_alloc HB3.out _) (blk_new w3 _) HR1.out (Kd.S_alloc HV3.out _) HOK.out.1 HOK.out.2 HPB.out).mono ?_; rintro e w5 ⟨rfl, hv5, _, hb5⟩; have HV5 := Aside0.mk hv5; have HB5 := Aside0.mk (hb5 w.heap.size w (Nat.le_refl _) (below_alloc HB3.out _) (below_alloc HB3.out _).size); clear hv5 hb5))
        go_ret2
        exact ⟨_, rfl, HV5.out, HB5.out⟩
-- NOT PRINTED: function 147 (abi_NoEscape)
-- NOT PRINTED: function 116 (strings_Builder_copyCheck)
-- NOT PRINTED: function 77 (strings_Builder_WriteString)
-- NOT PRINTED: function 81 (strings_Builder_String)
-- NOT PRINTED: function 177 (bytealg_MakeNoZero)
-- NOT PRINTED: function 164 (strings_Builder_grow)
-- NOT PRINTED: function 150 (strings_Builder_Grow)
-- NOT PRINTED: function 118 (strings_Join)
/-! ### rows_Written: function 78 -/
section
variable {ops : Array Oper} {rest : List Oper} {o : Oper} {a : Act} {Q : Exit → Act → World → Prop}
theorem append_str {W : World} {base : Nat} (hgd : o.guard = none) (s x : Operand) (ho : o.op = .call { callee := .builtin .append, args := #[s, x], argTypes := #[133, 133] })
    (v : Value) (xs : List ByteArray) (p : ByteArray) (hs : a.eval s = v) (hx : a.eval x = .slice (some ⟨W.heap.size, 0, none⟩) 1 1)
    (HO : Kd.R Kd.string 9 W base (fun _ => True) v xs) (hbase : base ≤ W.heap.size) (hl : xs.length ≤ 5000000)
    (h : ∀ v1 w1, Kd.R Kd.string 9 w1 base (fun _ => True) v1 (xs ++ [p]) → Below base W w1 → wpList Tryz.prog ops Q rest (a.put o.dst v1) w1) :
    wpList Tryz.prog ops Q (o :: rest) a (W.alloc (.cells #[.string p] 9)) := by
  refine Kd.R_append Kd.string (w0 := W) base hgd s x 133 9 (.string ⟨#[]⟩) 16 ho Tryz.underlying133 (by kernel_rfl) rfl (by decide) (by omega) v xs p [.string p] (fun _ => True) (fun _ => False) hs hx rfl (fun _ hk => hk.elim) (fun _ _ => trivial) HO (Below.refl _ _) hbase (by omega) (fun v1 w1 h1 h2 _ _ => h v1 w1 h1 h2)
theorem join_none.calls (sep : ByteArray) (w : World) : Calls Tryz.prog 118 #[.slice none 0 0, .string sep] w fun e w' => e = .returned (.string ⟨#[]⟩) ∧ w' = w := by
  go_enter Tryz.func118, Tryz.ntmps118
  go_wp2
  go_ret
  exact ⟨rfl, rfl⟩
theorem joinAny.calls (v : Value) (xs : List ByteArray) (sep : ByteArray) (w : World) (base : Nat) (h : Kd.R Kd.string 9 w base (fun _ => True) v xs) (hl : xs.length ≤ 1000000) (hj : (Lib.join (xs.map (·.data.toList)) sep.data.toList).length ≤ 140737488355328) :
    Calls Tryz.prog 118 #[v, .string sep] w fun e w' => e = .returned (.string (ofL (Lib.join (xs.map (·.data.toList)) sep.data.toList))) ∧ Below w.heap.size w w' := by
  cases xs with
  | nil =>
    obtain ⟨A, c, rfl⟩ := Kd.R_slice h
    cases A with
    | none =>
      have hc : c = 0 := by
        obtain ⟨_, inner, ho, _⟩ := h
        rcases ho.2 with ⟨he, _⟩ | ⟨g, cap, cur, he, _⟩
        · injection he
        · cases he
      subst hc
      refine (join_none.calls sep w).mono ?_
      rintro e w' ⟨rfl, rfl⟩
      exact ⟨by rw [List.map_nil, Lib.join_nil]; rfl, Below.refl _ _⟩
    | some ad =>
      obtain ⟨g, rfl⟩ := Kd.R_head h
      have hg : g < w.heap.size := Kd.R_lt h g rfl
      exact Tryz.strings_Join g 0 c [] sep w (fun j x hx => by simp at hx) hg (by decide) (Nat.zero_le _) hj
  | cons x xr =>
    obtain ⟨g, cap, rfl, _, hg, _⟩ := Kd.R_form h (by simp)
    have hr := Kd.R_reads' h
    refine Tryz.strings_Join g 0 cap (x :: xr) sep w (fun j y hy => ?_) hg (by omega) hr.2.1 hj
    have hc := Kd.reads_of_C (d := ⟨#[]⟩) hr.2.2
    obtain ⟨ad, e, h2⟩ := hc.2.2 (by simp)
    injection e with e
    have hjl := (List.getElem?_eq_some_iff.1 hy).1
    have h3 := h2 j hjl
    rw [← e, add_at, List.getD_eq_getElem?_getD, hy] at h3
    exact h3
end
def rows_Written.f (l0 : List V) : Option ByteArray := if okRow l0 = true then some (ofL (rowL l0)) else none
set_option maxRecDepth 100000 in
set_option maxHeartbeats 2000000 in
theorem rows_Written.calls (A0 : Option Addr) (c0 : Nat) (l0 : List V) (r : ByteArray) (w : World) (hL_ : Laid w) (hr0 : Kd.C k61 w A0 l0.length l0) (_hc0 : l0.length ≤ c0) (h : rows_Written.f l0 = some r) :
    Calls Tryz.prog 78 #[.slice A0 l0.length c0] w fun e w' => e = .returned (.string r) ∧ Below w.heap.size w w' := by
  unfold rows_Written.f at h
  by_cases hs : okRow l0 = true
  case neg => rw [if_neg hs] at h; cases h
  rw [if_pos hs] at h
  obtain rfl := Option.some.inj h
  have hu61 := Tryz.underlying61
  have HLD := Aside0.mk hL_
  have HR0 := Aside0.mk hr0
  have HS := Aside0.mk (okRow_spec hs)
  have HJ := Aside0.mk (rowL_len hs).1
  clear h hs hL_ hr0
  obtain ⟨n, hn⟩ : ∃ n, n = l0.length := ⟨_, rfl⟩
  rw [← hn]
  have hle : n ≤ 1000 := by have := HS.out.1; omega
  have HN := Aside0.mk hn
  clear hn
  obtain ⟨res, hres⟩ : ∃ res, res = ofL (rowL l0) := ⟨_, rfl⟩
  rw [← hres]
  have HRES := Aside0.mk hres
  clear hres
  go_enter Tryz.func78, Tryz.ntmps78
  go_wp2
  go_loopg [3, 5, 8] n (fun gg s3 _ s8 wr => ∃ kk : Nat, kk ≤ n ∧ n - kk ≤ gg ∧ s8 = .int .i64 kk ∧ Aside0 (Below w.heap.size w wr) ∧ Aside0 (Kd.R Kd.string 9 wr w.heap.size (fun _ => True) s3 ((l0.take kk).map fun v => ofL (wrL v))))
  case atStart => exact ⟨0, Nat.zero_le _, by omega, rfl, ⟨Below.refl _ _⟩, ⟨Kd.R_nil _ _ _ _ _⟩⟩
  case round =>
    obtain ⟨kk, hkk, hg, rfl, HB, HO⟩ := hrel
    obtain ⟨Ao, co, eo⟩ := Kd.R_slice HO.out
    subst eo
    obtain ⟨m, hm⟩ : ∃ m, m = ((l0.take kk).map fun v => ofL (wrL v)).length := ⟨_, rfl⟩
    rw [← hm] at HO ⊢
    have HM : Aside0 (((l0.take kk).map fun v => ofL (wrL v)).length ≤ 1000) := ⟨by rw [List.length_map, List.length_take]; omega⟩
    clear hm
    by_cases hlt : kk < n
    · have hltz : (kk : Int) < (n : Int) := by omega
      have hlt' : kk < l0.length := by have := HN.out; omega
      obtain ⟨ad, e1, hx0, hx1, hx2⟩ := at_T61 HR0.out (kk : Int) (by omega) (by omega)
      cases e1
      rw [rd_at _ _ hlt'] at hx0 hx1 hx2
      simp only [Int.toNat_natCast] at hx0 hx1 hx2
      replace hx0 := cell_keeps HB.out hx0
      replace hx1 := cell_keeps HB.out hx1
      replace hx2 := cell_keeps HB.out hx2
      have hok := HS.out.2 l0[kk] (List.getElem_mem hlt')
      have EK : Aside0 ((l0.take (kk + 1)).map (fun v => ofL (wrL v)) = (l0.take kk).map (fun v => ofL (wrL v)) ++ [ofL (wrL l0[kk])]) := ⟨by
        rw [List.take_add_one, List.getElem?_eq_getElem hlt', List.map_append]; rfl⟩
      generalize l0[kk] = y at hx0 hx1 hx2 hok EK
      have hcall := fun W hL => value_Written.calls y.f0 y.f1 y.f2 (ofL (wrL y)) W hL (by unfold value_Written.f; rw [if_pos (show okV y.f0 y.f1 y.f2 = true from hok)]; rfl)
      have HC := Aside0.mk hcall
      clear hok hcall hlt'
      generalize ofL (wrL y) = s at HC EK
      go_wp2_with (first
        | (go_at_call 117; refine (HC.out _ (HLD.out.below (below_alloc HB.out _))).mono ?_; rintro e w2 ⟨rfl, hb2⟩; have HB2 := Aside0.mk (below_step (below_alloc HB.out _) hb2); have HO2 := Aside0.mk (Kd.R_below HO.out (below_step (below_alloc (Below.refl _ _) _) hb2)); clear hb2)
        | (at_builtin; refine append_str rfl _ _ rfl _ _ s rfl (by first | rfl | (go_simp; done) | (go_simp; rfl)) HO2.out HB2.out.size (by have := HM.out; omega) ?_; intro v3 w3 ho3 hb3; have HO3 := Aside0.mk ho3; have HB3 := Aside0.mk (HB2.out.trans hb3); clear ho3 hb3))
      go_roundg (n - (kk + 1))
      case measure => omega
      case rel =>
        refine ⟨kk + 1, by omega, by omega, by go_num, HB3, ⟨?_⟩⟩
        rw [EK.out]
        exact HO3.out
    · have hltz : decide (kk < n) = false := by simpa using hlt
      have HO2 : Aside0 (Kd.R Kd.string 9 wr w.heap.size (fun _ => True) (.slice Ao m co) (l0.map fun v => ofL (wrL v))) := ⟨by
        have h9 := HO.out
        rw [List.take_of_length_le (by have := HN.out; omega)] at h9
        exact h9⟩
      have hmm : (l0.map fun v => ofL (wrL v)).map (·.data.toList) = l0.map wrL := by rw [List.map_map]; rfl
      have hcall := joinAny.calls _ _ ⟨#[44, 32]⟩ wr _ HO2.out (by rw [List.length_map]; have := HS.out.1; omega) (by rw [hmm]; have := HJ.out; show (Lib.join (l0.map wrL) [44, 32]).length ≤ _; omega)
      rw [hmm, show (⟨#[44, 32]⟩ : ByteArray).data.toList = [44, 32] from rfl] at hcall
      have HC := Aside0.mk hcall
      have HE : Aside0 (res = (⟨#[40]⟩ : ByteArray) ++ ofL (Lib.join (l0.map wrL) [44, 32]) ++ (⟨#[41]⟩ : ByteArray)) := ⟨by
        rw [HRES.out]
        refine ba_ext ?_
        rw [ByteArray.data_append, ByteArray.data_append, Array.toList_append, Array.toList_append]
        rfl⟩
      have hsz : (ofL (Lib.join (l0.map wrL) [44, 32])).size ≤ 404000 := by rw [ofL_size]; exact HJ.out
      clear hcall hlt HO HO2 hmm
      generalize ofL (Lib.join (l0.map wrL) [44, 32]) = j at HC HE hsz
      have h1 : 1 + j.size ≤ 9223372036854775807 := by omega
      have h2 : 1 + j.size + 1 ≤ 9223372036854775807 := by omega
      have h3 : ((⟨#[40]⟩ : ByteArray) ++ j).size + 1 ≤ 9223372036854775807 := by rw [ByteArray.size_append]; exact h2
      clear hsz
      go_wp2_with (go_at_call 118; refine HC.out.mono ?_; rintro e w' ⟨rfl, hb'⟩)
      go_ret
      exact ⟨by rw [HE.out]; rfl, below_step HB.out hb'⟩
def rows_String.f (l0 : List (List V)) : Option (ByteArray × Int) := if smallE [l0] = 0 then (if okRR l0 = true then (if (strR l0).length ≤ 20000 then some (ofL (strR l0), 0) else some (⟨#[]⟩, 2)) else none) else some (⟨#[]⟩, smallE [l0])
set_option maxRecDepth 100000 in
set_option maxHeartbeats 2000000 in
theorem rows_String.calls (A0 : Option Addr) (c0 : Nat) (l0 : List (List V)) (r1 : ByteArray) (r2 : Int) (w : World) (hr0 : Kd.C (Kd.slice 61 k61) w A0 l0.length l0) (hc0 : l0.length ≤ c0) (hL_ : Laid w) (h : rows_String.f l0 = some (r1, r2)) :
  Calls Tryz.prog 48 #[.slice A0 l0.length c0] w fun e w' => e = .returned (.tuple #[.string r1, .int .i64 r2]) ∧ Below w.heap.size w w' := by
 unfold rows_String.f at h
 have HSM := Aside0.mk (fun W hb => small_one A0 c0 l0 w W hr0 hc0 hb)
 by_cases hs : smallE [l0] = 0
 case neg =>
  rw [if_neg hs] at h
  simp only [Option.some.injEq, Prod.mk.injEq] at h
  obtain ⟨rfl, rfl⟩ := h
  have hs2 : (smallE [l0] != 0) = true := by simpa using hs
  clear hL_ hr0 hc0 hs
  generalize smallE [l0] = x at HSM hs2 ⊢
  generalize l0.length = n0 at HSM ⊢
  go_enter Tryz.func48, Tryz.ntmps48
  go_wp2_with (go_at_call 52; refine (HSM.out _ (Below.refl _ _)).mono ?_; rintro e w1 ⟨rfl, hb1⟩)
  go_ret2
  exact ⟨rfl, hb1⟩
 rw [if_pos hs] at h
 by_cases hk : okRR l0 = true
 case neg => rw [if_neg hk] at h; cases h
 rw [if_pos hk] at h
 rw [hs] at HSM
 have HLD := Aside0.mk hL_
 have HR0 := Aside0.mk hr0
 have HS := Aside0.mk (okRR_spec hk)
 have H := Aside0.mk h
 clear h hs hk hL_ hr0 hc0
 obtain ⟨n, hn⟩ : ∃ n, n = l0.length := ⟨_, rfl⟩
 rw [← hn] at HSM ⊢
 have hle : n ≤ 1000000 := by have := HS.out.1; omega
 have HN := Aside0.mk hn
 clear hn
 go_enter Tryz.func48, Tryz.ntmps48
 go_wp2_with (go_at_call 52; refine (HSM.out _ (Below.refl _ _)).mono ?_; rintro e w1 ⟨rfl, hb1⟩; have HB1 := Aside0.mk (below_alloc hb1 (.cells #[.pointer none, .slice none 0 0] 102)); have HI1 : Aside0 (Lib.IsBuilder 102 5 w1.heap.size w1.heap.size (Lib.byteCells (strR (l0.take 0))) (w1.alloc (.cells #[.pointer none, .slice none 0 0] 102))) := ⟨Lib.fresh_isBuilder _ _ w1⟩; have HW1 := Aside0.mk hb1.size; clear hb1)
 generalize w1.alloc (.cells #[.pointer none, .slice none 0 0] 102) = ws at HI1 HB1 ⊢
 generalize w1.heap.size = bb at HI1 HW1 ⊢
 have HBS : Aside0 (bb ≤ ws.heap.size) := ⟨by
  rcases HI1.out with h9 | h9
  ·exact Nat.le_of_lt h9.lt
  ·exact Nat.le_of_lt h9.lt⟩
 go_loopg [7, 16] n (fun gg _ s16 wr => ∃ kk : Nat, kk ≤ n ∧ n - kk ≤ gg ∧ s16 = .int .i64 kk ∧ Aside0 (Below w.heap.size w wr) ∧ Aside0 (Lib.IsBuilder 102 5 bb bb (Lib.byteCells (strR (l0.take kk))) wr) ∧ Aside0 (bb ≤ wr.heap.size))
 case atStart => exact ⟨0, Nat.zero_le _, by omega, rfl, HB1, HI1, HBS⟩
 case round =>
  clear HB1 HI1 HBS HSM
  obtain ⟨kk, hkk, hg, rfl, HB, HI, HBS⟩ := hrel
  by_cases hlt : kk < n
  ·have hltz : (kk : Int) < (n : Int) := by omega
   have hlt' : kk < l0.length := by have := HN.out; omega
   obtain ⟨ad, e1, hcs⟩ := HR0.out.2.2 (by omega)
   cases e1
   obtain ⟨cs, hcs1, ⟨A1, c1, rfl, hle1, hC1⟩, hcs3⟩ := hcs kk l0[kk] (List.getElem?_eq_getElem hlt')
   have hx0 : w.cell? (ad.add kk) = some (.slice A1 l0[kk].length c1) := by
    have h9 := hcs3 0 _ rfl
    rw [show kk * (Kd.slice 61 k61).sz + 0 = kk from Nat.mul_one kk] at h9
    exact h9
   replace hx0 := cell_keeps HB.out hx0
   have hrow := HS.out.2 l0[kk] (List.getElem_mem hlt')
   have htk : strR (l0.take (kk + 1)) = strR (l0.take kk) ++ (rowL l0[kk] ++ [10]) := by
    rw [List.take_add_one, List.getElem?_eq_getElem hlt']; exact strR_snoc _ _
   have hlen : (strR (l0.take kk)).length ≤ kk * 404003 := by
    have := strR_len (l0.take kk) (fun v hv => HS.out.2 v (List.mem_of_mem_take hv))
    rw [List.length_take] at this
    exact Nat.le_trans this (Nat.mul_le_mul_right _ (Nat.min_le_left _ _))
   have hwl := (rowL_len hrow).2
   have hcall := rows_Written.calls A1 c1 l0[kk] (ofL (rowL l0[kk])) wr (HLD.out.below HB.out) (Kd.C_below hC1 HB.out) hle1 (by unfold rows_Written.f; rw [if_pos hrow])
   clear hcs3 hcs1 hcs hC1 hle1
   generalize l0[kk] = y at hx0 hrow htk hcall hwl
   have hsz : (ofL (rowL y)).size = (rowL y).length := ofL_size _
   have hsc : Lib.strCells (ofL (rowL y)) = Lib.byteCells (rowL y) := rfl
   have HC := Aside0.mk hcall
   have HT := Aside0.mk htk
   have HL := Aside0.mk (And.intro hlen (And.intro hwl hsz))
   have HSC := Aside0.mk hsc
   clear hrow htk hlen hwl hcall hsz hsc hlt'
   generalize ofL (rowL y) = s at HC HL HSC
   generalize y.length = ylen at hx0 HC
   go_wp2_with (go_at_call 78; refine HC.out.mono ?_; rintro e w2 ⟨rfl, hb2⟩; have HB2 := Aside0.mk (below_step HB.out hb2); have HI2 := Aside0.mk (builder_below HI.out hb2); have HS2 := Aside0.mk (Nat.le_trans HBS.out hb2.size); clear hb2)
   go_at_call 77
   refine (builder_write _ _ _ _ _ HI2.out (by rw [Lib.byteCells_length]; have := HL.out; omega) HS2.out).mono ?_
   rintro e w3 ⟨rfl, hi3, hb3⟩
   have HB3 := Aside0.mk (HB2.out.trans (hb3.mono HW1.out))
   have HS3 := Aside0.mk hb3.size
   have HI3 := Aside0.mk hi3
   clear hi3 hb3
   go_wp2_with (go_at_call 79; refine (builder_byte _ _ _ _ _ HI3.out (by rw [List.length_append, Lib.byteCells_length, Lib.strCells_length]; have := HL.out; omega) (Nat.le_trans HS2.out HS3.out)).mono ?_; rintro e w4 ⟨rfl, hi4, hb4⟩; have HB4 := Aside0.mk (HB3.out.trans (hb4.mono HW1.out)); have HS4 := Aside0.mk hb4.size; have HI4 := Aside0.mk hi4; clear hi4 hb4)
   go_roundg (n - (kk + 1))
   case measure => omega
   case rel =>
    refine ⟨kk + 1, by omega, by omega, by go_num, HB4, ⟨?_⟩, ⟨Nat.le_trans HS2.out (Nat.le_trans HS3.out HS4.out)⟩⟩
    rw [HT.out, Lib.byteCells_append, Lib.byteCells_append, ← HSC.out, ← List.append_assoc]
    exact HI4.out
  ·have hltz : decide (kk < n) = false := by simpa using hlt
   have HI2 : Aside0 (Lib.IsBuilder 102 5 bb bb (Lib.byteCells (strR l0)) wr) := ⟨by
    have h9 := HI.out
    rw [List.take_of_length_le (by have := HN.out; omega)] at h9
    exact h9⟩
   have HLN := Aside0.mk (fun W (h9 : Lib.IsBuilder 102 5 bb bb (Lib.byteCells (strR l0)) W) => Tryz.Builder_Len _ _ _ W h9)
   rw [Lib.byteCells_length] at HLN
   have hbd : (strR l0).length ≤ 1000000 * 404003 := Nat.le_trans (strR_len l0 HS.out.2) (Nat.mul_le_mul_right _ (by have := HN.out; omega))
   clear hlt HI
   by_cases hz : (strR l0).length ≤ 20000
   ·have h := H.out
    rw [if_pos hz] at h
    simp only [Option.some.injEq, Prod.mk.injEq] at h
    obtain ⟨rfl, rfl⟩ := h
    have hz2 : ¬ (20000 : Int) < ((strR l0).length : Int) := by omega
    clear H
    generalize (strR l0).length = ln at HLN hbd hz hz2
    go_wp2_with (first
     | (go_at_call 80; refine (HLN.out _ HI2.out).mono ?_; rintro e w2 ⟨rfl, rfl⟩)
     | (go_at_call 81; refine (Tryz.Builder_String_any _ _ _ _ HI2.out HBS.out).mono ?_; rintro e w3 ⟨rfl, hb3⟩; have HB3 := Aside0.mk (HB.out.trans (hb3.mono HW1.out)); clear hb3))
    go_ret2
    exact ⟨rfl, HB3.out⟩
   ·have h := H.out
    rw [if_neg hz] at h
    simp only [Option.some.injEq, Prod.mk.injEq] at h
    obtain ⟨rfl, rfl⟩ := h
    have hz2 : (20000 : Int) < ((strR l0).length : Int) := by omega
    clear H
    generalize (strR l0).length = ln at HLN hbd hz hz2
    go_wp2_with (go_at_call 80; refine (HLN.out _ HI2.out).mono ?_; rintro e w2 ⟨rfl, rfl⟩)
    go_ret2
    exact ⟨rfl, HB.out⟩
end Go.Proofs.YtmhobbdedmjmnaaGreatDoor.Q
end
section
/- Each function reached is shown to return what the plain function beside it computes, wherever that is defined (written by a program of ours for this seat). -/
namespace Go.Proofs.YtmhobbdedmjmnaaGreatDoor.Q
open Go.RowKit Go.Proofs.YtmhobbdedmjmnaaGreatDoorW.PrintWords Go.Proofs.YtmhobbdedmjmnaaGreatDoorW.PrintLast Go.Proofs.YtmhobbdedmjmnaaGreatDoorW.PrintMore
attribute [local go_sem] max2_int min2_int max_two min_two max_three min_three max_four min_four   -- for this text's walks alone
set_option linter.unusedVariables false
set_option linter.unusedSimpArgs false
end Go.Proofs.YtmhobbdedmjmnaaGreatDoor.Q
end
section
/- Each function reached is shown to return what the plain function beside it computes, wherever that is defined (written by a program of ours for this seat). -/
namespace Go.Proofs.YtmhobbdedmjmnaaGreatDoor.Q
open Go.RowKit Go.Proofs.YtmhobbdedmjmnaaGreatDoorW.PrintWords Go.Proofs.YtmhobbdedmjmnaaGreatDoorW.PrintLast Go.Proofs.YtmhobbdedmjmnaaGreatDoorW.PrintMore
attribute [local go_sem] max2_int min2_int max_two min_two max_three min_three max_four min_four   -- for this text's walks alone
set_option linter.unusedVariables false
set_option linter.unusedSimpArgs false
end Go.Proofs.YtmhobbdedmjmnaaGreatDoor.Q
end
section
/- Each function reached is shown to return what the plain function beside it computes, wherever that is defined (written by a program of ours for this seat). -/
namespace Go.Proofs.YtmhobbdedmjmnaaGreatDoor.Q
open Go.RowKit Go.Proofs.YtmhobbdedmjmnaaGreatDoorW.PrintWords Go.Proofs.YtmhobbdedmjmnaaGreatDoorW.PrintLast Go.Proofs.YtmhobbdedmjmnaaGreatDoorW.PrintMore
attribute [local go_sem] max2_int min2_int max_two min_two max_three min_three max_four min_four   -- for this text's walks alone
set_option linter.unusedVariables false
set_option linter.unusedSimpArgs false
end Go.Proofs.YtmhobbdedmjmnaaGreatDoor.Q
end
section
/- Each function reached is shown to return what the plain function beside it computes, wherever that is defined (written by a program of ours for this seat). -/
namespace Go.Proofs.YtmhobbdedmjmnaaGreatDoor.Q
open Go.RowKit Go.Proofs.YtmhobbdedmjmnaaGreatDoorW.PrintWords Go.Proofs.YtmhobbdedmjmnaaGreatDoorW.PrintLast Go.Proofs.YtmhobbdedmjmnaaGreatDoorW.PrintMore
attribute [local go_sem] max2_int min2_int max_two min_two max_three min_three max_four min_four   -- for this text's walks alone
set_option linter.unusedVariables false
set_option linter.unusedSimpArgs false
end Go.Proofs.YtmhobbdedmjmnaaGreatDoor.Q
end
section
/- What the plain definitions on rows answer: rows ordered by keys, each once; no program in sight. -/
namespace Go.Proofs.YtmhobbdedmjmnaaGreatDoor
open Go.RowKit Go.Proofs.YtmhobbdedmjmnaaGreatDoor.Q Go.Proofs.YtmhobbdedmjmnaaGreatDoorW.PrintWords Go.Proofs.YtmhobbdedmjmnaaGreatDoorW.PrintLast Go.Proofs.YtmhobbdedmjmnaaGreatDoorW.PrintMore
/-- keys that name places of every row -/
def KeysIn (ks : List KK) (l : List (List V)) : Prop := ks.length ≤ 1000 ∧ ∀ k ∈ ks, ∀ r ∈ l, 0 ≤ k.f0 ∧ k.f0 < r.length
theorem RowsOk.sub {n m : Nat} {l r : List (List V)} (h : RowsOk n l) (hs : ∀ x ∈ r, x ∈ l) (hl : r.length ≤ m) : RowsOk m r := ⟨hl, fun x hx => h.2 x (hs x hx)⟩
theorem KeysIn.sub {ks : List KK} {l r : List (List V)} (h : KeysIn ks l) (hs : ∀ x ∈ r, x ∈ l) : KeysIn ks r := ⟨h.1, fun k hk x hx => h.2 k hk x (hs x hx)⟩
end Go.Proofs.YtmhobbdedmjmnaaGreatDoor
end
section
/- Each function reached is shown to return what the plain function beside it computes, wherever that is defined (written by a program of ours for this seat). -/
namespace Go.Proofs.YtmhobbdedmjmnaaGreatDoor.Q
open Go.RowKit Go.Proofs.YtmhobbdedmjmnaaGreatDoorW.PrintWords Go.Proofs.YtmhobbdedmjmnaaGreatDoorW.PrintLast Go.Proofs.YtmhobbdedmjmnaaGreatDoorW.PrintMore
attribute [local go_sem] max2_int min2_int max_two min_two max_three min_three max_four min_four   -- for this text's walks alone
set_option linter.unusedVariables false
set_option linter.unusedSimpArgs false
end Go.Proofs.YtmhobbdedmjmnaaGreatDoor.Q
end
section
/- Each function reached is shown to return what the plain function beside it computes, wherever that is defined (written by a program of ours for this seat). -/
namespace Go.Proofs.YtmhobbdedmjmnaaGreatDoor.Q
open Go.RowKit Go.Proofs.YtmhobbdedmjmnaaGreatDoorW.PrintWords Go.Proofs.YtmhobbdedmjmnaaGreatDoorW.PrintLast Go.Proofs.YtmhobbdedmjmnaaGreatDoorW.PrintMore
attribute [local go_sem] max2_int min2_int max_two min_two max_three min_three max_four min_four   -- for this text's walks alone
set_option linter.unusedVariables false
set_option linter.unusedSimpArgs false
end Go.Proofs.YtmhobbdedmjmnaaGreatDoor.Q
end
section
/- What the plain definitions on rows answer: in both lists, and what is left of one; no program in sight. -/
end
section
/- What the arguments of the laws on rows are, cut short; what is wrong with them; in plain words. -/
namespace Go.Proofs.YtmhobbdedmjmnaaGreatDoor
open Go.RowKit Go.Proofs.YtmhobbdedmjmnaaGreatDoor.Q Go.Proofs.YtmhobbdedmjmnaaGreatDoorW.PrintWords Go.Proofs.YtmhobbdedmjmnaaGreatDoorW.PrintLast Go.Proofs.YtmhobbdedmjmnaaGreatDoorW.PrintMore
/-- a row, rows that come in -/
def argRow (x : List V) : Prop := x.length * 32 ≤ 140737488351232 ∧ x.length ≤ maxLen ∧ ∀ xx ∈ x, (Lit.int .i64 xx.f0).wf = true ∧ (Lit.int .i64 xx.f1).wf = true ∧ xx.f2.size ≤ 140737488351232
def argRows (l : List (List V)) : Prop := l.length * 24 ≤ 140737488351232 ∧ l.length ≤ maxLen ∧ ∀ x ∈ l, argRow x
theorem RowsOk.grow {n m : Nat} {l : List (List V)} (h : RowsOk n l) (hn : n ≤ m) : RowsOk m l := h.sub (fun _ h => h) (Nat.le_trans h.1 hn)
end Go.Proofs.YtmhobbdedmjmnaaGreatDoor
end
section
/- Each function reached is shown to return what the plain function beside it computes, wherever that is defined (written by a program of ours for this seat). -/
namespace Go.Proofs.YtmhobbdedmjmnaaGreatDoor.Q
open Go.RowKit Go.Proofs.YtmhobbdedmjmnaaGreatDoorW.PrintWords Go.Proofs.YtmhobbdedmjmnaaGreatDoorW.PrintLast Go.Proofs.YtmhobbdedmjmnaaGreatDoorW.PrintMore
attribute [local go_sem] max2_int min2_int max_two min_two max_three min_three max_four min_four   -- for this text's walks alone
set_option linter.unusedVariables false
set_option linter.unusedSimpArgs false
/-! ### rows_Compare: function 27 -/
end Go.Proofs.YtmhobbdedmjmnaaGreatDoor.Q
end
section
/- Each function reached is shown to return what the plain function beside it computes, wherever that is defined (written by a program of ours for this seat). -/
namespace Go.Proofs.YtmhobbdedmjmnaaGreatDoor.Q
open Go.RowKit Go.Proofs.YtmhobbdedmjmnaaGreatDoorW.PrintWords Go.Proofs.YtmhobbdedmjmnaaGreatDoorW.PrintLast Go.Proofs.YtmhobbdedmjmnaaGreatDoorW.PrintMore
attribute [local go_sem] max2_int min2_int max_two min_two max_three min_three max_four min_four   -- for this text's walks alone
set_option linter.unusedVariables false
set_option linter.unusedSimpArgs false
theorem eqA61 (d : Nat) (w : World) (x0 y0 : Int) (x1 y1 : Int) (x2 y2 : ByteArray) :
  (Op.equalIn (d + 2) 61 (.agg #[.int .i64 x0, .int .i64 x1, .string x2]) (.agg #[.int .i64 y0, .int .i64 y1, .string y2])).run Tryz.prog w = .ok (x0 == y0 && (x1 == y1 && (x2.toList == y2.toList))) w := by
 refine eqA_of Tryz.underlying61 (by kernel_rfl) ?_
 refine eqf_cons (by rfl) (by go_simp; rfl) (by go_simp; rfl) (by go_simp) ?_
 refine eqf_cons (by rfl) (by go_simp; rfl) (by go_simp; rfl) (by go_simp) ?_
 exact eqf_last (by rfl) (by go_simp; rfl) (by go_simp; rfl) (by go_simp)
end Go.Proofs.YtmhobbdedmjmnaaGreatDoor.Q
end
section
/- Each function reached is shown to return what the plain function beside it computes, wherever that is defined (written by a program of ours for this seat). -/
namespace Go.Proofs.YtmhobbdedmjmnaaGreatDoor.Q
open Go.RowKit Go.Proofs.YtmhobbdedmjmnaaGreatDoorW.PrintWords Go.Proofs.YtmhobbdedmjmnaaGreatDoorW.PrintLast Go.Proofs.YtmhobbdedmjmnaaGreatDoorW.PrintMore
attribute [local go_sem] max2_int min2_int max_two min_two max_three min_three max_four min_four   -- for this text's walks alone
set_option linter.unusedVariables false
set_option linter.unusedSimpArgs false
attribute [local go_sem high] eqA61
end Go.Proofs.YtmhobbdedmjmnaaGreatDoor.Q
end
section
/- Each function reached is shown to return what the plain function beside it computes, wherever that is defined (written by a program of ours for this seat). -/
namespace Go.Proofs.YtmhobbdedmjmnaaGreatDoor.Q
open Go.RowKit Go.Proofs.YtmhobbdedmjmnaaGreatDoorW.PrintWords Go.Proofs.YtmhobbdedmjmnaaGreatDoorW.PrintLast Go.Proofs.YtmhobbdedmjmnaaGreatDoorW.PrintMore
attribute [local go_sem] max2_int min2_int max_two min_two max_three min_three max_four min_four   -- for this text's walks alone
set_option linter.unusedVariables false
set_option linter.unusedSimpArgs false
end Go.Proofs.YtmhobbdedmjmnaaGreatDoor.Q
end
section
/- What the definition's Equal and Same answer of any two lists of rows; no program in sight. -/
namespace Go.Proofs.YtmhobbdedmjmnaaGreatDoor
open Go.RowKit Go.Proofs.YtmhobbdedmjmnaaGreatDoor.Q Go.Proofs.YtmhobbdedmjmnaaGreatDoorW.PrintWords Go.Proofs.YtmhobbdedmjmnaaGreatDoorW.PrintLast Go.Proofs.YtmhobbdedmjmnaaGreatDoorW.PrintMore
theorem dec_consP {α : Type} [DecidableEq α] (x y : α) (l r : List α) : decide (x :: l = y :: r) = (decide (x = y) && decide (l = r)) := by
  by_cases e : x = y
  · by_cases e2 : l = r
    · subst e e2; simp
    · simp [e, e2]
  · simp [e]
theorem refEqual2_loop (l m : List (List V)) (hl : RowsOk 100000 l) (hm : RowsOk 100000 m) (hlm : l.length = m.length) : ∀ (d i k : Nat), i + d = l.length → d + 300 < k →
    tacticianref02_Equal.l0 k l m (i : Int) = some (decide (l.drop i = m.drop i)) := by
  have hl1 := hl.1
  intro d
  induction d with
  | zero =>
    intro i k hi hk
    obtain ⟨k, rfl⟩ : ∃ m, k = m + 1 := ⟨k - 1, by omega⟩
    rw [tacticianref02_Equal.l0, if_neg (by omega), List.drop_of_length_le (by omega), List.drop_of_length_le (by omega)]
    rfl
  | succ d ih =>
    intro i k hi hk
    obtain ⟨k, rfl⟩ : ∃ m, k = m + 1 := ⟨k - 1, by omega⟩
    have h1 : i < l.length := by omega
    have h2 : i < m.length := by omega
    rw [tacticianref02_Equal.l0, if_pos (by omega), if_pos (by omega), if_pos (by omega), rdL_at l i h1, rdL_at m i h2, refCmp _ _ (hl.2 _ (List.getElem_mem h1)) (hm.2 _ (List.getElem_mem h2)) k (by omega), Option.bind_some, List.drop_eq_getElem_cons h1, List.drop_eq_getElem_cons h2, dec_consP]
    by_cases h : l[i] = m[i]
    · rw [if_pos ((cfR_zero _ _).2 h), decide_eq_true h, Bool.true_and, wrap_small (n := (i : Int) + 1) (by omega) (by omega), show ((i : Int) + 1) = ((i + 1 : Nat) : Int) by omega]
      exact ih (i + 1) k (by omega) (by omega)
    · rw [if_neg (fun e => h ((cfR_zero _ _).1 e)), decide_eq_false h, Bool.false_and]
theorem refEqual2 (l m : List (List V)) (hl : RowsOk 100000 l) (hm : RowsOk 100000 m) (k : Nat) (hk : 100301 ≤ k) : tacticianref02_Equal.f k l m = some (decide (l = m)) := by
  have hl1 := hl.1
  unfold tacticianref02_Equal.f
  by_cases h : l.length = m.length
  · rw [if_pos (by omega)]
    exact refEqual2_loop l m hl hm h l.length 0 k (by omega) (by omega)
  · rw [if_neg (by omega), decide_eq_false fun e => h (by rw [e])]
end Go.Proofs.YtmhobbdedmjmnaaGreatDoor
end
section
/- Each function reached is shown to return what the plain function beside it computes, wherever that is defined (written by a program of ours for this seat). -/
namespace Go.Proofs.YtmhobbdedmjmnaaGreatDoor.Q
open Go.RowKit Go.Proofs.YtmhobbdedmjmnaaGreatDoorW.PrintWords Go.Proofs.YtmhobbdedmjmnaaGreatDoorW.PrintLast Go.Proofs.YtmhobbdedmjmnaaGreatDoorW.PrintMore
attribute [local go_sem] max2_int min2_int max_two min_two max_three min_three max_four min_four   -- for this text's walks alone
set_option linter.unusedVariables false
set_option linter.unusedSimpArgs false
def tacticianref01_Null.f  : Option (Int × Int × ByteArray) := some (0, 0, (⟨#[]⟩ : ByteArray))
set_option maxHeartbeats 8000000 in
set_option maxRecDepth 100000 in
theorem tacticianref01_Null.calls  (r1 : Int) (r2 : Int) (r3 : ByteArray) (w : World) (h : tacticianref01_Null.f  = some (r1, r2, r3)) :
    Calls Tryz.prog 141 #[] w fun e w' => e = .returned (.agg #[.int .i64 r1, .int .i64 r2, .string r3]) ∧ Below w.heap.size w w' := by
  have hu61 := Tryz.underlying61
  have HB := Aside0.mk (Below.refl w.heap.size w)
  have H : (some (0, 0, (⟨#[]⟩ : ByteArray))) = some (r1, r2, r3) := h
  clear h
  simp only [Option.some.injEq, Prod.mk.injEq] at H
  obtain ⟨rfl, rfl, rfl⟩ := H
  go_enter Tryz.func141, Tryz.ntmps141
  go_wp2_with (first | ((with_reducible refine gate_dst (N := 0) rfl ?_); refine box_event ?hg (N := 0) ?hd (cs := #[.int .i64 0, .int .i64 0, .string (⟨#[]⟩ : ByteArray)]) (t := 61) ?hr ?_; (case hd => rfl); (case hg => rfl); (case hr => first | (go_simp; done) | (go_simp; rfl)); intro gb527 hg w1 hbox hb; have n0_ := Aside0.mk (below_step (by repeat (first | (with_reducible first | exact HB.out | apply yA | apply yN | apply yD) | exact HB.out)) hb); have n1_ := Aside0.mk (hbox); have n2_ := Aside0.mk ((by rw [hg]; exact (below_size (by repeat (first | (with_reducible first | exact HB.out | apply yA | apply yN | apply yD) | exact HB.out))) : w.heap.size ≤ gb527)); have n3_ := Aside0.mk ((by rw [hg]; exact (below_size (by repeat (first | (with_reducible first | exact HB.out | apply yA | apply yN | apply yD) | exact HB.out))) : w.heap.size ≤ gb527)); clear HB; have HB := n0_; have BK527 := n1_; have GW527 := n2_; have GE527 := n3_; clear n0_ n1_ n2_ n3_; clear hb hbox hg; have hcz2_0 : w1.cell? ⟨gb527, 0, none⟩ = some (.int .i64 0) := (blk_cell BK527.out 0).trans rfl; have hcz2_1 : w1.cell? ⟨gb527, 1, none⟩ = some (.int .i64 0) := (blk_cell BK527.out 1).trans rfl; have hcz2_2 : w1.cell? ⟨gb527, 2, none⟩ = some (.string (⟨#[]⟩ : ByteArray)) := (blk_cell BK527.out 2).trans rfl; have hfz2_0 := blk_frozen BK527.out 0; have hfz2_1 := blk_frozen BK527.out 1; have hfz2_2 := blk_frozen BK527.out 2))
  refine bodyPost_ret (results_cell_row rfl _ _ gb527 61 #[.int .i64 0, .int .i64 0, .string (⟨#[]⟩ : ByteArray)] (0, 0) _ rfl (by (with_reducible repeat (first | refine zN ?_ _ | refine zD ?_ | refine zA ?_ _)); refine blk_put (cs := #[.int .i64 0, .int .i64 0, .string (⟨#[]⟩ : ByteArray)]) ?_ 2 _ rfl; (with_reducible repeat (first | refine zN ?_ _ | refine zD ?_ | refine zA ?_ _)); refine blk_put (cs := #[.int .i64 0, .int .i64 0, .string (⟨#[]⟩ : ByteArray)]) ?_ 1 _ rfl; (with_reducible repeat (first | refine zN ?_ _ | refine zD ?_ | refine zA ?_ _)); refine blk_put (cs := #[.int .i64 0, .int .i64 0, .string (⟨#[]⟩ : ByteArray)]) ?_ 0 _ rfl; (with_reducible repeat (first | refine zN ?_ _ | refine zD ?_ | refine zA ?_ _)); exact BK527.out) Tryz.underlying61 rfl (by kernel_rfl)) rfl ?_
  exact ⟨by first | rfl | (simp [errW_none, errW_some] <;> rfl) | (simp [*, errW_none, errW_some] <;> rfl), by repeat (first | (with_reducible first | exact HB.out | apply yA | apply yN | apply yD | refine below_set ?_ GE527.out) | exact HB.out)⟩
def tacticianref01_Bool.f (a0 : Bool) : Option (Int × Int × ByteArray) := if a0 = true then (some (2, 1, (⟨#[]⟩ : ByteArray))) else (some (2, 0, (⟨#[]⟩ : ByteArray)))
set_option maxHeartbeats 8000000 in
set_option maxRecDepth 100000 in
theorem tacticianref01_Bool.calls (a0 : Bool) (r1 : Int) (r2 : Int) (r3 : ByteArray) (w : World) (h : tacticianref01_Bool.f a0 = some (r1, r2, r3)) :
    Calls Tryz.prog 142 #[.bool a0] w fun e w' => e = .returned (.agg #[.int .i64 r1, .int .i64 r2, .string r3]) ∧ Below w.heap.size w w' := by
  have hu61 := Tryz.underlying61
  have HB := Aside0.mk (Below.refl w.heap.size w)
  have H : (if a0 = true then (some (2, 1, (⟨#[]⟩ : ByteArray))) else (some (2, 0, (⟨#[]⟩ : ByteArray)))) = some (r1, r2, r3) := h
  clear h
  by_cases c2 : a0 = true
  · subst c2
    have H1 : (some (2, 1, (⟨#[]⟩ : ByteArray))) = some (r1, r2, r3) := by rw [if_pos rfl] at H; exact H
    clear H
    have H := H1
    clear H1
    simp only [Option.some.injEq, Prod.mk.injEq] at H
    obtain ⟨rfl, rfl, rfl⟩ := H
    go_enter Tryz.func142, Tryz.ntmps142
    go_wp2_with (first | ((with_reducible refine gate_dst (N := 2) rfl ?_); refine box_event ?hg (N := 2) ?hd (cs := #[.int .i64 0, .int .i64 0, .string (⟨#[]⟩ : ByteArray)]) (t := 61) ?hr ?_; (case hd => rfl); (case hg => rfl); (case hr => first | (go_simp; done) | (go_simp; rfl)); intro gb528 hg w3 hbox hb; have n0_ := Aside0.mk (below_step (by repeat (first | (with_reducible first | exact HB.out | apply yA | apply yN | apply yD) | exact HB.out)) hb); have n1_ := Aside0.mk (hbox); have n2_ := Aside0.mk ((by rw [hg]; exact (below_size (by repeat (first | (with_reducible first | exact HB.out | apply yA | apply yN | apply yD) | exact HB.out))) : w.heap.size ≤ gb528)); have n3_ := Aside0.mk ((by rw [hg]; exact (below_size (by repeat (first | (with_reducible first | exact HB.out | apply yA | apply yN | apply yD) | exact HB.out))) : w.heap.size ≤ gb528)); clear HB; have HB := n0_; have BK528 := n1_; have GW528 := n2_; have GE528 := n3_; clear n0_ n1_ n2_ n3_; clear hb hbox hg; have hcz4_0 : w3.cell? ⟨gb528, 0, none⟩ = some (.int .i64 0) := (blk_cell BK528.out 0).trans rfl; have hcz4_1 : w3.cell? ⟨gb528, 1, none⟩ = some (.int .i64 0) := (blk_cell BK528.out 1).trans rfl; have hcz4_2 : w3.cell? ⟨gb528, 2, none⟩ = some (.string (⟨#[]⟩ : ByteArray)) := (blk_cell BK528.out 2).trans rfl; have hfz4_0 := blk_frozen BK528.out 0; have hfz4_1 := blk_frozen BK528.out 1; have hfz4_2 := blk_frozen BK528.out 2))
    refine bodyPost_ret (results_cell_row rfl _ _ gb528 61 #[.int .i64 2, .int .i64 1, .string (⟨#[]⟩ : ByteArray)] (0, 0) _ rfl (by (with_reducible repeat (first | refine zN ?_ _ | refine zD ?_ | refine zA ?_ _)); refine blk_put (cs := #[.int .i64 2, .int .i64 1, .string (⟨#[]⟩ : ByteArray)]) ?_ 2 _ rfl; (with_reducible repeat (first | refine zN ?_ _ | refine zD ?_ | refine zA ?_ _)); refine blk_put (cs := #[.int .i64 2, .int .i64 0, .string (⟨#[]⟩ : ByteArray)]) ?_ 1 _ rfl; (with_reducible repeat (first | refine zN ?_ _ | refine zD ?_ | refine zA ?_ _)); refine blk_put (cs := #[.int .i64 0, .int .i64 0, .string (⟨#[]⟩ : ByteArray)]) ?_ 0 _ rfl; (with_reducible repeat (first | refine zN ?_ _ | refine zD ?_ | refine zA ?_ _)); exact BK528.out) Tryz.underlying61 rfl (by kernel_rfl)) rfl ?_
    exact ⟨by first | rfl | (simp [errW_none, errW_some] <;> rfl) | (simp [*, errW_none, errW_some] <;> rfl), by repeat (first | (with_reducible first | exact HB.out | apply yA | apply yN | apply yD | refine below_set ?_ GE528.out) | exact HB.out)⟩
  · replace c2 := Bool.eq_false_iff.mpr c2
    subst c2
    have H1 : (some (2, 0, (⟨#[]⟩ : ByteArray))) = some (r1, r2, r3) := by rw [if_neg (show ¬ (false = true) by decide)] at H; exact H
    clear H
    have H := H1
    clear H1
    simp only [Option.some.injEq, Prod.mk.injEq] at H
    obtain ⟨rfl, rfl, rfl⟩ := H
    go_enter Tryz.func142, Tryz.ntmps142
    go_wp2_with (first | ((with_reducible refine gate_dst (N := 2) rfl ?_); refine box_event ?hg (N := 2) ?hd (cs := #[.int .i64 0, .int .i64 0, .string (⟨#[]⟩ : ByteArray)]) (t := 61) ?hr ?_; (case hd => rfl); (case hg => rfl); (case hr => first | (go_simp; done) | (go_simp; rfl)); intro gb528 hg w5 hbox hb; have n0_ := Aside0.mk (below_step (by repeat (first | (with_reducible first | exact HB.out | apply yA | apply yN | apply yD) | exact HB.out)) hb); have n1_ := Aside0.mk (hbox); have n2_ := Aside0.mk ((by rw [hg]; exact (below_size (by repeat (first | (with_reducible first | exact HB.out | apply yA | apply yN | apply yD) | exact HB.out))) : w.heap.size ≤ gb528)); have n3_ := Aside0.mk ((by rw [hg]; exact (below_size (by repeat (first | (with_reducible first | exact HB.out | apply yA | apply yN | apply yD) | exact HB.out))) : w.heap.size ≤ gb528)); clear HB; have HB := n0_; have BK528 := n1_; have GW528 := n2_; have GE528 := n3_; clear n0_ n1_ n2_ n3_; clear hb hbox hg; have hcz6_0 : w5.cell? ⟨gb528, 0, none⟩ = some (.int .i64 0) := (blk_cell BK528.out 0).trans rfl; have hcz6_1 : w5.cell? ⟨gb528, 1, none⟩ = some (.int .i64 0) := (blk_cell BK528.out 1).trans rfl; have hcz6_2 : w5.cell? ⟨gb528, 2, none⟩ = some (.string (⟨#[]⟩ : ByteArray)) := (blk_cell BK528.out 2).trans rfl; have hfz6_0 := blk_frozen BK528.out 0; have hfz6_1 := blk_frozen BK528.out 1; have hfz6_2 := blk_frozen BK528.out 2))
    refine bodyPost_ret (results_cell_row rfl _ _ gb528 61 #[.int .i64 2, .int .i64 0, .string (⟨#[]⟩ : ByteArray)] (0, 0) _ rfl (by (with_reducible repeat (first | refine zN ?_ _ | refine zD ?_ | refine zA ?_ _)); refine blk_put (cs := #[.int .i64 2, .int .i64 0, .string (⟨#[]⟩ : ByteArray)]) ?_ 2 _ rfl; (with_reducible repeat (first | refine zN ?_ _ | refine zD ?_ | refine zA ?_ _)); refine blk_put (cs := #[.int .i64 2, .int .i64 0, .string (⟨#[]⟩ : ByteArray)]) ?_ 1 _ rfl; (with_reducible repeat (first | refine zN ?_ _ | refine zD ?_ | refine zA ?_ _)); refine blk_put (cs := #[.int .i64 0, .int .i64 0, .string (⟨#[]⟩ : ByteArray)]) ?_ 0 _ rfl; (with_reducible repeat (first | refine zN ?_ _ | refine zD ?_ | refine zA ?_ _)); exact BK528.out) Tryz.underlying61 rfl (by kernel_rfl)) rfl ?_
    exact ⟨by first | rfl | (simp [errW_none, errW_some] <;> rfl) | (simp [*, errW_none, errW_some] <;> rfl), by repeat (first | (with_reducible first | exact HB.out | apply yA | apply yN | apply yD | refine below_set ?_ GE528.out) | exact HB.out)⟩
def tacticianref01_Text.f (a0 : ByteArray) : Option (Int × Int × ByteArray) := some (3, 0, a0)
set_option maxHeartbeats 8000000 in
set_option maxRecDepth 100000 in
theorem tacticianref01_Text.calls (a0 : ByteArray) (r1 : Int) (r2 : Int) (r3 : ByteArray) (w : World) (h : tacticianref01_Text.f a0 = some (r1, r2, r3)) :
  Calls Tryz.prog 143 #[.string a0] w fun e w' => e = .returned (.agg #[.int .i64 r1, .int .i64 r2, .string r3]) ∧ Below w.heap.size w w' := by
 have hu61 := Tryz.underlying61
 have HB := Aside0.mk (Below.refl w.heap.size w)
 have H : (some (3, 0, a0)) = some (r1, r2, r3) := h
 clear h
 simp only [Option.some.injEq, Prod.mk.injEq] at H
 obtain ⟨rfl, rfl, rfl⟩ := H
 go_enter Tryz.func143, Tryz.ntmps143
 go_wp2_with (first | ((with_reducible refine gate_dst (N := 2) rfl ?_); refine box_event ?hg (N := 2) ?hd (cs := #[.int .i64 0, .int .i64 0, .string (⟨#[]⟩ : ByteArray)]) (t := 61) ?hr ?_; (case hd => rfl); (case hg => rfl); (case hr => first | (go_simp; done) | (go_simp; rfl)); intro gb529 hg w2 hbox hb; have n0_ := Aside0.mk (below_step (by repeat (first | (with_reducible first | exact HB.out | apply yA | apply yN | apply yD) | exact HB.out)) hb); have n1_ := Aside0.mk (hbox); have n2_ := Aside0.mk ((by rw [hg]; exact (below_size (by repeat (first | (with_reducible first | exact HB.out | apply yA | apply yN | apply yD) | exact HB.out))) : w.heap.size ≤ gb529)); have n3_ := Aside0.mk ((by rw [hg]; exact (below_size (by repeat (first | (with_reducible first | exact HB.out | apply yA | apply yN | apply yD) | exact HB.out))) : w.heap.size ≤ gb529)); clear HB; have HB := n0_; have BK529 := n1_; have GW529 := n2_; have GE529 := n3_; clear n0_ n1_ n2_ n3_; clear hb hbox hg; have hcz3_0 : w2.cell? ⟨gb529, 0, none⟩ = some (.int .i64 0) := (blk_cell BK529.out 0).trans rfl; have hcz3_1 : w2.cell? ⟨gb529, 1, none⟩ = some (.int .i64 0) := (blk_cell BK529.out 1).trans rfl; have hcz3_2 : w2.cell? ⟨gb529, 2, none⟩ = some (.string (⟨#[]⟩ : ByteArray)) := (blk_cell BK529.out 2).trans rfl; have hfz3_0 := blk_frozen BK529.out 0; have hfz3_1 := blk_frozen BK529.out 1; have hfz3_2 := blk_frozen BK529.out 2))
 refine bodyPost_ret (results_cell_row rfl _ _ gb529 61 #[.int .i64 3, .int .i64 0, .string a0] (0, 0) _ rfl (by (with_reducible repeat (first | refine zN ?_ _ | refine zD ?_ | refine zA ?_ _)); refine blk_put (cs := #[.int .i64 3, .int .i64 0, .string (⟨#[]⟩ : ByteArray)]) ?_ 2 _ rfl; (with_reducible repeat (first | refine zN ?_ _ | refine zD ?_ | refine zA ?_ _)); refine blk_put (cs := #[.int .i64 3, .int .i64 0, .string (⟨#[]⟩ : ByteArray)]) ?_ 1 _ rfl; (with_reducible repeat (first | refine zN ?_ _ | refine zD ?_ | refine zA ?_ _)); refine blk_put (cs := #[.int .i64 0, .int .i64 0, .string (⟨#[]⟩ : ByteArray)]) ?_ 0 _ rfl; (with_reducible repeat (first | refine zN ?_ _ | refine zD ?_ | refine zA ?_ _)); exact BK529.out) Tryz.underlying61 rfl (by kernel_rfl)) rfl ?_
 exact ⟨by first | rfl | (simp [errW_none, errW_some] <;> rfl) | (simp [*, errW_none, errW_some] <;> rfl), by repeat (first | (with_reducible first | exact HB.out | apply yA | apply yN | apply yD | refine below_set ?_ GE529.out) | exact HB.out)⟩
end Go.Proofs.YtmhobbdedmjmnaaGreatDoor.Q
end
section
/- Each function reached is shown to return what the plain function beside it computes, wherever that is defined (written by a program of ours for this seat). -/
namespace Go.Proofs.YtmhobbdedmjmnaaGreatDoor.Q
open Go.RowKit Go.Proofs.YtmhobbdedmjmnaaGreatDoorW.PrintWords Go.Proofs.YtmhobbdedmjmnaaGreatDoorW.PrintLast Go.Proofs.YtmhobbdedmjmnaaGreatDoorW.PrintMore
attribute [local go_sem] max2_int min2_int max_two min_two max_three min_three max_four min_four   -- for this text's walks alone
set_option linter.unusedVariables false
set_option linter.unusedSimpArgs false
end Go.Proofs.YtmhobbdedmjmnaaGreatDoor.Q
end
section
/- Each function reached is shown to return what the plain function beside it computes, wherever that is defined (written by a program of ours for this seat). -/
namespace Go.Proofs.YtmhobbdedmjmnaaGreatDoor.Q
open Go.RowKit Go.Proofs.YtmhobbdedmjmnaaGreatDoorW.PrintWords Go.Proofs.YtmhobbdedmjmnaaGreatDoorW.PrintLast Go.Proofs.YtmhobbdedmjmnaaGreatDoorW.PrintMore
attribute [local go_sem] max2_int min2_int max_two min_two max_three min_three max_four min_four   -- for this text's walks alone
set_option linter.unusedVariables false
set_option linter.unusedSimpArgs false
end Go.Proofs.YtmhobbdedmjmnaaGreatDoor.Q
end
section
/- Each function reached is shown to return what the plain function beside it computes, wherever that is defined (written by a program of ours for this seat). -/
namespace Go.Proofs.YtmhobbdedmjmnaaGreatDoor.Q
open Go.RowKit Go.Proofs.YtmhobbdedmjmnaaGreatDoorW.PrintWords Go.Proofs.YtmhobbdedmjmnaaGreatDoorW.PrintLast Go.Proofs.YtmhobbdedmjmnaaGreatDoorW.PrintMore
attribute [local go_sem] max2_int min2_int max_two min_two max_three min_three max_four min_four   -- for this text's walks alone
set_option linter.unusedVariables false
set_option linter.unusedSimpArgs false
end Go.Proofs.YtmhobbdedmjmnaaGreatDoor.Q
end
section
/- Each function reached is shown to return what the plain function beside it computes, wherever that is defined (written by a program of ours for this seat). -/
namespace Go.Proofs.YtmhobbdedmjmnaaGreatDoor.Q
open Go.RowKit Go.Proofs.YtmhobbdedmjmnaaGreatDoorW.PrintWords Go.Proofs.YtmhobbdedmjmnaaGreatDoorW.PrintLast Go.Proofs.YtmhobbdedmjmnaaGreatDoorW.PrintMore
attribute [local go_sem] max2_int min2_int max_two min_two max_three min_three max_four min_four   -- for this text's walks alone
set_option linter.unusedVariables false
set_option linter.unusedSimpArgs false
end Go.Proofs.YtmhobbdedmjmnaaGreatDoor.Q
end
section
/- The reference's own reading of numbers and values (printed) answers as the plain words say. -/
namespace Go.Proofs.YtmhobbdedmjmnaaGreatDoor
open Go.RowKit Go.Proofs.YtmhobbdedmjmnaaGreatDoor.Q Go.Proofs.YtmhobbdedmjmnaaGreatDoorW.PrintWords Go.Proofs.YtmhobbdedmjmnaaGreatDoorW.PrintLast Go.Proofs.YtmhobbdedmjmnaaGreatDoorW.PrintMore
theorem digits_len (u : Nat) : ∀ d, u < 10 ^ (d + 1) → (Lib.decDigits u).length ≤ d + 1 := by
  induction u using Nat.strongRecOn with
  | _ u ih =>
    intro d hu
    rw [Lib.decDigits]
    split
    · simp
    · rename_i h
      cases d with
      | zero => simp at hu; omega
      | succ d =>
        have := ih (u / 10) (by omega) d (by rw [Nat.pow_succ] at hu; omega)
        simp only [List.length_append, List.length_cons, List.length_nil]
        omega
theorem itoa_len (m : Int) (h : inI64 m = true) : 0 < (Lib.itoa m).length ∧ (Lib.itoa m).length ≤ 20 := by
  obtain ⟨h0, h1⟩ := inI64_bd h
  have hp : (10 : Nat) ^ (18 + 1) = 10000000000000000000 := rfl
  have hl := digits_len m.natAbs 18 (by rw [hp]; omega)
  have hne : 0 < (Lib.decDigits m.natAbs).length := List.length_pos_iff.2 (decDigits_ne _)
  rcases itoa_cases m with ⟨_, e⟩ | ⟨_, e⟩
  · rw [e]; simp only [List.length_cons]; omega
  · rw [e]; omega
end Go.Proofs.YtmhobbdedmjmnaaGreatDoor
end
section
/- Each function reached is shown to return what the plain function beside it computes, wherever that is defined (written by a program of ours for this seat). -/
namespace Go.Proofs.YtmhobbdedmjmnaaGreatDoor.Q
open Go.RowKit Go.Proofs.YtmhobbdedmjmnaaGreatDoorW.PrintWords Go.Proofs.YtmhobbdedmjmnaaGreatDoorW.PrintLast Go.Proofs.YtmhobbdedmjmnaaGreatDoorW.PrintMore
attribute [local go_sem] max2_int min2_int max_two min_two max_three min_three max_four min_four   -- for this text's walks alone
set_option linter.unusedVariables false
set_option linter.unusedSimpArgs false
def stringslite_HasPrefix.f (a0 : ByteArray) (a1 : ByteArray) : Option (Bool) := if (a0.size : Int) ≥ (a1.size : Int) then (if 0 ≤ (a1.size : Int) then (if (a1.size : Int) ≤ (a0.size : Int) then (some ((a0.extract 0 ((a1.size : Int) : Int).toNat).toList == a1.toList)) else (none)) else (none)) else (some false)
set_option maxHeartbeats 8000000 in
set_option maxRecDepth 100000 in
theorem stringslite_HasPrefix.calls (a0 : ByteArray) (a1 : ByteArray) (r : Bool) (w : World) (h : stringslite_HasPrefix.f a0 a1 = some r) :
    Calls Tryz.prog 121 #[.string a0, .string a1] w fun e w' => e = .returned (.bool r) ∧ Drawn0 w w' := by
  have H : (if (a0.size : Int) ≥ (a1.size : Int) then (if 0 ≤ (a1.size : Int) then (if (a1.size : Int) ≤ (a0.size : Int) then (some ((a0.extract 0 ((a1.size : Int) : Int).toNat).toList == a1.toList)) else (none)) else (none)) else (some false)) = some r := h
  clear h
  by_cases c3 : (a0.size : Int) ≥ (a1.size : Int)
  · rw [if_pos c3] at H
    have c3b0 : decide ((a1.size : Int) ≤ (a0.size : Int)) = true := decide_eq_true c3
    have c3b1 : decide (a1.size ≤ a0.size) = true := decide_eq_true (Int.ofNat_le.mp c3)
    clear c3
    by_cases c4 : 0 ≤ (a1.size : Int)
    · rw [if_pos c4] at H
      have c4b0 := eq_true c4
      have c4b1 : decide (0 ≤ (a1.size : Int)) = true := decide_eq_true c4
      clear c4
      by_cases c5 : (a1.size : Int) ≤ (a0.size : Int)
      · rw [if_pos c5] at H
        have c5b0 := eq_true c5
        have c5b1 : decide ((a1.size : Int) ≤ (a0.size : Int)) = true := decide_eq_true c5
        clear c5
        obtain rfl := Option.some.inj H
        go_enter Tryz.func121, Tryz.ntmps121
        go_wp2
        go_ret
        exact ⟨by first | rfl | (simp; done) | (simp [*]; done), by repeat (first | exact Drawn0.refl _ | apply Drawn0.step)⟩
      · rw [if_neg c5] at H
        exact absurd H (by simp)
    · rw [if_neg c4] at H
      exact absurd H (by simp)
  · rw [if_neg c3] at H
    have c3b0 : decide ((a1.size : Int) ≤ (a0.size : Int)) = false := decide_eq_false c3
    have c3b1 : decide (a1.size ≤ a0.size) = false := decide_eq_false (fun h => c3 (Int.ofNat_le.mpr h))
    clear c3
    obtain rfl := Option.some.inj H
    go_enter Tryz.func121, Tryz.ntmps121
    go_wp2
    go_ret
    exact ⟨by first | rfl | (simp; done) | (simp [*]; done), by repeat (first | exact Drawn0.refl _ | apply Drawn0.step)⟩
def strings_HasPrefix.f (a0 : ByteArray) (a1 : ByteArray) : Option (Bool) := (stringslite_HasPrefix.f a0 a1).bind fun t649 => (some t649)
set_option maxHeartbeats 8000000 in
set_option maxRecDepth 100000 in
theorem strings_HasPrefix.calls (a0 : ByteArray) (a1 : ByteArray) (r : Bool) (w : World) (h : strings_HasPrefix.f a0 a1 = some r) :
    Calls Tryz.prog 84 #[.string a0, .string a1] w fun e w' => e = .returned (.bool r) ∧ Drawn0 w w' := by
  have H : ((stringslite_HasPrefix.f a0 a1).bind fun t649 => (some t649)) = some r := h
  clear h
  replace H := Option.bind_eq_some_iff.mp H
  obtain ⟨t649, A30, H⟩ := H
  replace H : (some t649) = some r := H
  have A3 := Aside0.mk A30
  clear A30
  obtain rfl := Option.some.inj H
  go_enter Tryz.func84, Tryz.ntmps84
  go_wp2_with (first | ((with_reducible refine gate_callee (f := 121) rfl ?_); refine goesL_ (some 7) rfl rfl Tryz.func121 (by kernel_rfl) rfl #[.string a0, .string a1] rfl (by (try simp only [List.map_toArray, List.map_cons, List.map_nil]); first | done | rfl | (simp only [List.length_drop, List.length_take]; rfl)) ?_; (with_reducible refine (stringslite_HasPrefix.calls a0 a1 t649 _ A3.out).mono ?_); rintro e w' ⟨rfl, ⟨nd, rfl⟩⟩; refine ⟨_, rfl, ?_⟩))
  go_ret
  exact ⟨by first | rfl | (simp; done) | (simp [*]; done), by repeat (first | exact Drawn0.refl _ | apply Drawn0.step)⟩
def value_True.f  : Option (Int × Int × ByteArray) := some (2, 1, (⟨#[]⟩ : ByteArray))
set_option maxHeartbeats 8000000 in
set_option maxRecDepth 100000 in
theorem value_True.calls  (r1 : Int) (r2 : Int) (r3 : ByteArray) (w : World) (h : value_True.f  = some (r1, r2, r3)) :
    Calls Tryz.prog 165 #[] w fun e w' => e = .returned (.agg #[.int .i64 r1, .int .i64 r2, .string r3]) ∧ Below w.heap.size w w' := by
  have hu61 := Tryz.underlying61
  have HB := Aside0.mk (Below.refl w.heap.size w)
  have H : (some (2, 1, (⟨#[]⟩ : ByteArray))) = some (r1, r2, r3) := h
  clear h
  simp only [Option.some.injEq, Prod.mk.injEq] at H
  obtain ⟨rfl, rfl, rfl⟩ := H
  go_enter Tryz.func165, Tryz.ntmps165
  go_wp2_with (first | ((with_reducible refine gate_dst (N := 0) rfl ?_); refine box_event ?hg (N := 0) ?hd (cs := #[.int .i64 0, .int .i64 0, .string (⟨#[]⟩ : ByteArray)]) (t := 61) ?hr ?_; (case hd => rfl); (case hg => rfl); (case hr => first | (go_simp; done) | (go_simp; rfl)); intro gb650 hg w1 hbox hb; have n0_ := Aside0.mk (below_step (by repeat (first | (with_reducible first | exact HB.out | apply yA | apply yN | apply yD) | exact HB.out)) hb); have n1_ := Aside0.mk (hbox); have n2_ := Aside0.mk ((by rw [hg]; exact (below_size (by repeat (first | (with_reducible first | exact HB.out | apply yA | apply yN | apply yD) | exact HB.out))) : w.heap.size ≤ gb650)); have n3_ := Aside0.mk ((by rw [hg]; exact (below_size (by repeat (first | (with_reducible first | exact HB.out | apply yA | apply yN | apply yD) | exact HB.out))) : w.heap.size ≤ gb650)); clear HB; have HB := n0_; have BK650 := n1_; have GW650 := n2_; have GE650 := n3_; clear n0_ n1_ n2_ n3_; clear hb hbox hg; have hcz2_0 : w1.cell? ⟨gb650, 0, none⟩ = some (.int .i64 0) := (blk_cell BK650.out 0).trans rfl; have hcz2_1 : w1.cell? ⟨gb650, 1, none⟩ = some (.int .i64 0) := (blk_cell BK650.out 1).trans rfl; have hcz2_2 : w1.cell? ⟨gb650, 2, none⟩ = some (.string (⟨#[]⟩ : ByteArray)) := (blk_cell BK650.out 2).trans rfl; have hfz2_0 := blk_frozen BK650.out 0; have hfz2_1 := blk_frozen BK650.out 1; have hfz2_2 := blk_frozen BK650.out 2))
  refine bodyPost_ret (results_cell_row rfl _ _ gb650 61 #[.int .i64 2, .int .i64 1, .string (⟨#[]⟩ : ByteArray)] (0, 0) _ rfl (by (with_reducible repeat (first | refine zN ?_ _ | refine zD ?_ | refine zA ?_ _)); refine blk_put (cs := #[.int .i64 2, .int .i64 1, .string (⟨#[]⟩ : ByteArray)]) ?_ 2 _ rfl; (with_reducible repeat (first | refine zN ?_ _ | refine zD ?_ | refine zA ?_ _)); refine blk_put (cs := #[.int .i64 2, .int .i64 0, .string (⟨#[]⟩ : ByteArray)]) ?_ 1 _ rfl; (with_reducible repeat (first | refine zN ?_ _ | refine zD ?_ | refine zA ?_ _)); refine blk_put (cs := #[.int .i64 0, .int .i64 0, .string (⟨#[]⟩ : ByteArray)]) ?_ 0 _ rfl; (with_reducible repeat (first | refine zN ?_ _ | refine zD ?_ | refine zA ?_ _)); exact BK650.out) Tryz.underlying61 rfl (by kernel_rfl)) rfl ?_
  exact ⟨by first | rfl | (simp [errW_none, errW_some] <;> rfl) | (simp [*, errW_none, errW_some] <;> rfl), by repeat (first | (with_reducible first | exact HB.out | apply yA | apply yN | apply yD | refine below_set ?_ GE650.out) | exact HB.out)⟩
def value_False.f  : Option (Int × Int × ByteArray) := some (2, 0, (⟨#[]⟩ : ByteArray))
set_option maxHeartbeats 8000000 in
set_option maxRecDepth 100000 in
theorem value_False.calls  (r1 : Int) (r2 : Int) (r3 : ByteArray) (w : World) (h : value_False.f  = some (r1, r2, r3)) :
    Calls Tryz.prog 166 #[] w fun e w' => e = .returned (.agg #[.int .i64 r1, .int .i64 r2, .string r3]) ∧ Below w.heap.size w w' := by
  have hu61 := Tryz.underlying61
  have HB := Aside0.mk (Below.refl w.heap.size w)
  have H : (some (2, 0, (⟨#[]⟩ : ByteArray))) = some (r1, r2, r3) := h
  clear h
  simp only [Option.some.injEq, Prod.mk.injEq] at H
  obtain ⟨rfl, rfl, rfl⟩ := H
  go_enter Tryz.func166, Tryz.ntmps166
  go_wp2_with (first | ((with_reducible refine gate_dst (N := 0) rfl ?_); refine box_event ?hg (N := 0) ?hd (cs := #[.int .i64 0, .int .i64 0, .string (⟨#[]⟩ : ByteArray)]) (t := 61) ?hr ?_; (case hd => rfl); (case hg => rfl); (case hr => first | (go_simp; done) | (go_simp; rfl)); intro gb651 hg w1 hbox hb; have n0_ := Aside0.mk (below_step (by repeat (first | (with_reducible first | exact HB.out | apply yA | apply yN | apply yD) | exact HB.out)) hb); have n1_ := Aside0.mk (hbox); have n2_ := Aside0.mk ((by rw [hg]; exact (below_size (by repeat (first | (with_reducible first | exact HB.out | apply yA | apply yN | apply yD) | exact HB.out))) : w.heap.size ≤ gb651)); have n3_ := Aside0.mk ((by rw [hg]; exact (below_size (by repeat (first | (with_reducible first | exact HB.out | apply yA | apply yN | apply yD) | exact HB.out))) : w.heap.size ≤ gb651)); clear HB; have HB := n0_; have BK651 := n1_; have GW651 := n2_; have GE651 := n3_; clear n0_ n1_ n2_ n3_; clear hb hbox hg; have hcz2_0 : w1.cell? ⟨gb651, 0, none⟩ = some (.int .i64 0) := (blk_cell BK651.out 0).trans rfl; have hcz2_1 : w1.cell? ⟨gb651, 1, none⟩ = some (.int .i64 0) := (blk_cell BK651.out 1).trans rfl; have hcz2_2 : w1.cell? ⟨gb651, 2, none⟩ = some (.string (⟨#[]⟩ : ByteArray)) := (blk_cell BK651.out 2).trans rfl; have hfz2_0 := blk_frozen BK651.out 0; have hfz2_1 := blk_frozen BK651.out 1; have hfz2_2 := blk_frozen BK651.out 2))
  refine bodyPost_ret (results_cell_row rfl _ _ gb651 61 #[.int .i64 2, .int .i64 0, .string (⟨#[]⟩ : ByteArray)] (0, 0) _ rfl (by (with_reducible repeat (first | refine zN ?_ _ | refine zD ?_ | refine zA ?_ _)); refine blk_put (cs := #[.int .i64 2, .int .i64 0, .string (⟨#[]⟩ : ByteArray)]) ?_ 2 _ rfl; (with_reducible repeat (first | refine zN ?_ _ | refine zD ?_ | refine zA ?_ _)); refine blk_put (cs := #[.int .i64 2, .int .i64 0, .string (⟨#[]⟩ : ByteArray)]) ?_ 1 _ rfl; (with_reducible repeat (first | refine zN ?_ _ | refine zD ?_ | refine zA ?_ _)); refine blk_put (cs := #[.int .i64 0, .int .i64 0, .string (⟨#[]⟩ : ByteArray)]) ?_ 0 _ rfl; (with_reducible repeat (first | refine zN ?_ _ | refine zD ?_ | refine zA ?_ _)); exact BK651.out) Tryz.underlying61 rfl (by kernel_rfl)) rfl ?_
  exact ⟨by first | rfl | (simp [errW_none, errW_some] <;> rfl) | (simp [*, errW_none, errW_some] <;> rfl), by repeat (first | (with_reducible first | exact HB.out | apply yA | apply yN | apply yD | refine below_set ?_ GE651.out) | exact HB.out)⟩
def strconv_ParseInt.f (a0 : ByteArray) (a1 : Int) (a2 : Int) : Option (Int × Option Int) := if a0.size ≤ 281474976710656 ∧ a1 = 10 ∧ a2 = 64 then (match Lib.parseIntB 64 a0.data.toList with | .ok v => some (v, none) | .range => some (Lib.intSat 64 a0.data.toList, some 1) | _ => some (0, some 0)) else none
theorem strconv_ParseInt.calls (a0 : ByteArray) (a1 : Int) (a2 : Int) (r1 : Int) (r2 : Option Int) (w : World) (hL_ : LaidE w) (h : strconv_ParseInt.f a0 a1 a2 = some (r1, r2)) :
  Calls Tryz.prog 167 #[.string a0, .int .i64 a1, .int .i64 a2] w fun e w' => ∃ ev : Value, e = .returned (.tuple #[.int .i64 r1, ev]) ∧ errR r2 ev ∧ Below w.heap.size w w' := by
 unfold strconv_ParseInt.f at h
 by_cases h0 : a0.size ≤ 281474976710656 ∧ a1 = 10 ∧ a2 = 64
 ·rw [if_pos h0] at h
  obtain ⟨hs, rfl, rfl⟩ := h0
  cases hp : Lib.parseIntB 64 a0.data.toList with
  | ok v =>
   rw [hp] at h
   obtain ⟨rfl, rfl⟩ := Prod.mk.inj (Option.some.inj h)
   refine (Tryz.strconv_ParseInt_10_at64_ok a0 (by omega) v hp w).mono ?_
   rintro e w' ⟨rfl, hw⟩
   refine ⟨_, rfl, rfl, ?_⟩
   rcases hw with rfl | ⟨t, rfl⟩
   ·exact Below.refl _ _
   ·exact Lib.bytesWorld_below _ _ _
  | range =>
   rw [hp] at h
   obtain ⟨rfl, rfl⟩ := Prod.mk.inj (Option.some.inj h)
   obtain ⟨tp, p, hv⟩ := hL_.rang
   refine (Tryz.strconv_ParseInt_10_at64_range_var a0 hs hp tp p w hv).mono ?_
   rintro e w' ⟨N, rfl, _, _, hb⟩
   exact ⟨_, rfl, ⟨_, _, rfl⟩, hb⟩
  | _ =>
   rw [hp] at h
   obtain ⟨rfl, rfl⟩ := Prod.mk.inj (Option.some.inj h)
   obtain ⟨tp, p, hv⟩ := hL_.synt
   refine (Tryz.strconv_ParseInt_10_at64_syntax_var a0 hs (fun v e => by rw [hp] at e; cases e) (fun e => by rw [hp] at e; cases e) tp p w hv).mono ?_
   rintro e w' ⟨N, rfl, _, _, hb⟩
   exact ⟨_, rfl, ⟨_, _, rfl⟩, hb⟩
 ·rw [if_neg h0] at h; cases h
end Go.Proofs.YtmhobbdedmjmnaaGreatDoor.Q
end
section
/- Each function reached is shown to return what the plain function beside it computes, wherever that is defined (written by a program of ours for this seat). -/
namespace Go.Proofs.YtmhobbdedmjmnaaGreatDoor.Q
open Go.RowKit Go.Proofs.YtmhobbdedmjmnaaGreatDoorW.PrintWords Go.Proofs.YtmhobbdedmjmnaaGreatDoorW.PrintLast Go.Proofs.YtmhobbdedmjmnaaGreatDoorW.PrintMore
attribute [local go_sem] max2_int min2_int max_two min_two max_three min_three max_four min_four   -- for this text's walks alone
set_option linter.unusedVariables false
set_option linter.unusedSimpArgs false
mutual
def value_Read.j1 : Nat → ByteArray → Int → Int → ByteArray → Option (Int × Int × ByteArray × Bool)
  | 0, _, _, _, _ => none
  | k + 1, x0, x654000, x654001, x654002 => (value_Is_s.f x654000 x654001 x654002).bind fun t664 => (if t664 = true then ((value_Written.f x654000 x654001 x654002).bind fun t665 => (if t665.toList = x0.toList then (some (x654000, x654001, x654002, true)) else (some (0, 0, (⟨#[]⟩ : ByteArray), false)))) else (some (0, 0, (⟨#[]⟩ : ByteArray), false)))
def value_Read.j0 : Nat → ByteArray → Bool → Option (Int × Int × ByteArray × Bool)
  | 0, _, _ => none
  | k + 1, x0, x28 => if x28 = true then (if 1 ≤ (wrap64 ((x0.size : Int) - 1)) then (if (wrap64 ((x0.size : Int) - 1)) ≤ (x0.size : Int) then ((strings_ReplaceAll.f (x0.extract 1 ((wrap64 ((x0.size : Int) - 1)) : Int).toNat) (⟨#[39, 39]⟩ : ByteArray) (⟨#[39]⟩ : ByteArray)).bind fun t660 => (value_Read.j1 k x0 3 0 t660)) else (none)) else (none)) else ((strconv_ParseInt.f x0 10 64).bind fun bt661 => (if bt661.2.isNone = true then (value_Read.j1 k x0 1 bt661.1 (⟨#[]⟩ : ByteArray)) else (some (0, 0, (⟨#[]⟩ : ByteArray), false))))
end
def value_Read.f (k : Nat) (a0 : ByteArray) : Option (Int × Int × ByteArray × Bool) := if a0.toList = ([110, 117, 108, 108] : List UInt8) then (value_Read.j1 k a0 0 0 (⟨#[]⟩ : ByteArray)) else (if a0.toList = ([116, 114, 117, 101] : List UInt8) then ((value_True.f).bind fun bt654 => (value_Read.j1 k a0 bt654.1 bt654.2.1 bt654.2.2)) else (if a0.toList = ([102, 97, 108, 115, 101] : List UInt8) then ((value_False.f).bind fun bt657 => (value_Read.j1 k a0 bt657.1 bt657.2.1 bt657.2.2)) else (if (a0.size : Int) > 1 then (if 0 < (a0.size : Int) then (if (bt a0 0) = 39 then (if 0 ≤ (wrap64 ((a0.size : Int) - 1)) then (if (wrap64 ((a0.size : Int) - 1)) < (a0.size : Int) then (value_Read.j0 k a0 ((bt a0 (wrap64 ((a0.size : Int) - 1))) == 39)) else (none)) else (none)) else (value_Read.j0 k a0 false)) else (none)) else (value_Read.j0 k a0 false))))
set_option maxHeartbeats 8000000 in
set_option maxRecDepth 100000 in
theorem value_Read.calls (k : Nat) (a0 : ByteArray) (r1 : Int) (r2 : Int) (r3 : ByteArray) (r4 : Bool) (w : World) (hL_ : LaidE w) (h : value_Read.f k a0 = some (r1, r2, r3, r4)) :
    Calls Tryz.prog 152 #[.string a0] w fun e w' => e = .returned (.tuple #[.agg #[.int .i64 r1, .int .i64 r2, .string r3], .bool r4]) ∧ Below w.heap.size w w' := by
  have hu61 := Tryz.underlying61
  have hu104 := Tryz.underlying104
  have HLD := Aside0.mk hL_
  clear hL_
  have HB := Aside0.mk (Below.refl w.heap.size w)
  have H : (if a0.toList = ([110, 117, 108, 108] : List UInt8) then (value_Read.j1 k a0 0 0 (⟨#[]⟩ : ByteArray)) else (if a0.toList = ([116, 114, 117, 101] : List UInt8) then ((value_True.f).bind fun bt654 => (value_Read.j1 k a0 bt654.1 bt654.2.1 bt654.2.2)) else (if a0.toList = ([102, 97, 108, 115, 101] : List UInt8) then ((value_False.f).bind fun bt657 => (value_Read.j1 k a0 bt657.1 bt657.2.1 bt657.2.2)) else (if (a0.size : Int) > 1 then (if 0 < (a0.size : Int) then (if (bt a0 0) = 39 then (if 0 ≤ (wrap64 ((a0.size : Int) - 1)) then (if (wrap64 ((a0.size : Int) - 1)) < (a0.size : Int) then (value_Read.j0 k a0 ((bt a0 (wrap64 ((a0.size : Int) - 1))) == 39)) else (none)) else (none)) else (value_Read.j0 k a0 false)) else (none)) else (value_Read.j0 k a0 false))))) = some (r1, r2, r3, r4) := h
  clear h
  have HC2 := Aside0.mk H
  clear H
  go_enter Tryz.func152, Tryz.ntmps152
  go_upto_block 0 with (first | ((with_reducible refine gate_dst (N := 2) rfl ?_); (try (refine gate_guard (by rfl) ?_; dsimp only)); refine box_event ?hg (N := 2) ?hd (cs := #[.int .i64 0, .int .i64 0, .string (⟨#[]⟩ : ByteArray)]) (t := 61) ?hr ?_; (case hd => rfl); (case hg => rfl); (case hr => first | (go_simp; done) | (go_simp; rfl)); intro gb652 hg w3 hbox hb; have n0_ := Aside0.mk (below_step (by repeat (first | (with_reducible first | exact HB.out | apply yA | apply yN | apply yD) | exact HB.out)) hb); have n1_ := Aside0.mk (hbox); have n2_ := Aside0.mk ((by rw [hg]; exact (below_size (by repeat (first | (with_reducible first | exact HB.out | apply yA | apply yN | apply yD) | exact HB.out))) : w.heap.size ≤ gb652)); have n3_ := Aside0.mk ((by rw [hg]; exact (below_size (by repeat (first | (with_reducible first | exact HB.out | apply yA | apply yN | apply yD) | exact HB.out))) : w.heap.size ≤ gb652)); clear HB; have HB := n0_; have BK652 := n1_; have GW652 := n2_; have GE652 := n3_; clear n0_ n1_ n2_ n3_; clear hb hbox hg) | ((with_reducible refine gate_dst (N := 4) rfl ?_); (try (refine gate_guard (by rfl) ?_; dsimp only)); refine box_event ?hg (N := 4) ?hd (cs := #[.int .i64 0, .int .i64 0, .string (⟨#[]⟩ : ByteArray)]) (t := 61) ?hr ?_; (case hd => rfl); (case hg => rfl); (case hr => first | (go_simp; done) | (go_simp; rfl)); intro gb653 hg w4 hbox hb; have n0_ := Aside0.mk (blk_below (g := gb652) (o := .cells #[.int .i64 0, .int .i64 0, .string (⟨#[]⟩ : ByteArray)] 61 (0, 0)) (by (with_reducible repeat (first | refine zN ?_ _ | refine zD ?_ | refine zA ?_ _)); exact BK652.out) hb); have n1_ := Aside0.mk (below_step (by repeat (first | (with_reducible first | exact HB.out | apply yA | apply yN | apply yD | refine below_set ?_ GE652.out) | exact HB.out)) hb); have n2_ := Aside0.mk (hbox); have n3_ := Aside0.mk ((by rw [hg]; exact (below_size (by repeat (first | (with_reducible first | exact HB.out | apply yA | apply yN | apply yD | refine below_set ?_ GE652.out) | exact HB.out))) : w.heap.size ≤ gb653)); have n4_ := Aside0.mk ((by rw [hg]; exact (below_size (by repeat (first | (with_reducible first | exact HB.out | apply yA | apply yN | apply yD | refine below_set ?_ GE652.out) | exact HB.out))) : w.heap.size ≤ gb653)); have n5_ := Aside0.mk ((by rw [hg]; exact Nat.ne_of_lt (blk_lt (g := gb652) (o := .cells #[.int .i64 0, .int .i64 0, .string (⟨#[]⟩ : ByteArray)] 61 (0, 0)) (by (with_reducible repeat (first | refine zN ?_ _ | refine zD ?_ | refine zA ?_ _)); exact BK652.out)) : gb652 ≠ gb653)); have n6_ := Aside0.mk ((by rw [hg]; exact Nat.ne_of_gt (blk_lt (g := gb652) (o := .cells #[.int .i64 0, .int .i64 0, .string (⟨#[]⟩ : ByteArray)] 61 (0, 0)) (by (with_reducible repeat (first | refine zN ?_ _ | refine zD ?_ | refine zA ?_ _)); exact BK652.out)) : gb653 ≠ gb652)); clear BK652; clear HB; have BK652 := n0_; have HB := n1_; have BK653 := n2_; have GW653 := n3_; have GE653 := n4_; have NB652_653 := n5_; have NB653_652 := n6_; clear n0_ n1_ n2_ n3_ n4_ n5_ n6_; clear hb hbox hg))
  (try simp only [Act.put, List.setIfInBounds_toArray, List.set_cons_zero, List.set_cons_succ])
  go_cut [] (fun wc => ∃ (kq : Nat) (x653000_1 : Int) (x653001_1 : Int) (x653002_1 : ByteArray) (x654000_1 : Int) (x654001_1 : Int) (x654002_1 : ByteArray), Aside0 (value_Read.j1 kq a0 x654000_1 x654001_1 x654002_1 = some (r1, r2, r3, r4)) ∧ Aside0 (kq ≤ k) ∧ Aside0 (wc.heap[gb652]? = some (.cells #[.int .i64 x653000_1, .int .i64 x653001_1, .string x653002_1] 61 (0, 0))) ∧ Aside0 (wc.heap[gb653]? = some (.cells #[.int .i64 x654000_1, .int .i64 x654001_1, .string x654002_1] 61 (0, 0))) ∧ Aside0 (Below w.heap.size w wc))
  case first =>
    have H := HC2.out
    clear HC2
    by_cases c5 : a0.toList = ([110, 117, 108, 108] : List UInt8)
    · rw [if_pos c5] at H
      have c5b0 : (a0.toList == ([110, 117, 108, 108] : List UInt8)) = true := beq_iff_eq.mpr c5
      have c5b1 : (a0.toList != ([110, 117, 108, 108] : List UInt8)) = false := bne_eq_false_iff_eq.mpr c5
      clear c5
      (first | rw [c5b0] | (simp only [i64_w, i32_w]; rw [c5b0]) | skip)
      have H' := Aside0.mk H
      clear H
      go_wp2
      go_meet
      case rel => exact ⟨_, (0), (0), ((⟨#[]⟩ : ByteArray)), (0), (0), ((⟨#[]⟩ : ByteArray)), H', ⟨by first | omega | exact Nat.le_refl _⟩, ⟨by (with_reducible repeat (first | refine zN ?_ _ | refine zD ?_ | refine zA ?_ _)); exact BK652.out⟩, ⟨by (with_reducible repeat (first | refine zN ?_ _ | refine zD ?_ | refine zA ?_ _)); exact BK653.out⟩, ⟨by repeat (first | (with_reducible first | exact HB.out | apply yA | apply yN | apply yD | refine below_set ?_ GE652.out | refine below_set ?_ GE653.out) | exact HB.out)⟩⟩
    · rw [if_neg c5] at H
      have c5b0 : (a0.toList == ([110, 117, 108, 108] : List UInt8)) = false := beq_eq_false_iff_ne.mpr c5
      have c5b1 : (a0.toList != ([110, 117, 108, 108] : List UInt8)) = true := bne_iff_ne.mpr c5
      (first | rw [c5b0] | (simp only [i64_w, i32_w]; rw [c5b0]) | skip)
      by_cases c6 : a0.toList = ([116, 114, 117, 101] : List UInt8)
      · rw [if_pos c6] at H
        have c6b0 : (a0.toList == ([116, 114, 117, 101] : List UInt8)) = true := beq_iff_eq.mpr c6
        have c6b1 : (a0.toList != ([116, 114, 117, 101] : List UInt8)) = false := bne_eq_false_iff_eq.mpr c6
        clear c6
        replace H := Option.bind_eq_some_iff.mp H
        obtain ⟨⟨t654, t655, t656⟩, A70, H⟩ := H
        replace H : (value_Read.j1 k a0 t654 t655 t656) = some (r1, r2, r3, r4) := H
        have A7 := Aside0.mk A70
        clear A70
        have H' := Aside0.mk H
        clear H
        go_wp2_with (first | ((with_reducible refine gate_callee (f := 165) rfl ?_); refine goesL_ (some 23) rfl rfl Tryz.func165 (by kernel_rfl) rfl #[] rfl (by (try simp only [List.map_toArray, List.map_cons, List.map_nil]); first | done | rfl | (simp only [List.length_drop, List.length_take]; rfl)) ?_; (with_reducible refine (value_True.calls  t654 t655 t656 _ A7.out).mono ?_); rintro e w8 ⟨rfl, hb⟩; refine ⟨_, rfl, ?_⟩; have n0_ := Aside0.mk (blk_below (g := gb652) (o := .cells #[.int .i64 0, .int .i64 0, .string (⟨#[]⟩ : ByteArray)] 61 (0, 0)) (by (with_reducible repeat (first | refine zN ?_ _ | refine zD ?_ | refine zA ?_ _)); exact BK652.out) hb); have n1_ := Aside0.mk (blk_below (g := gb653) (o := .cells #[.int .i64 0, .int .i64 0, .string (⟨#[]⟩ : ByteArray)] 61 (0, 0)) (by (with_reducible repeat (first | refine zN ?_ _ | refine zD ?_ | refine zA ?_ _)); exact BK653.out) hb); have n2_ := Aside0.mk (below_step (by repeat (first | (with_reducible first | exact HB.out | apply yA | apply yN | apply yD | refine below_set ?_ GE652.out | refine below_set ?_ GE653.out) | exact HB.out)) hb); clear BK652; clear BK653; clear HB; have BK652 := n0_; have BK653 := n1_; have HB := n2_; clear n0_ n1_ n2_; (try clear hb); (try clear hb2); (try clear hk); (try clear hi); have hnb9 := NB653_652.out; have hnc9 := NB652_653.out; have hcz10_0 : w8.cell? ⟨gb653, 0, none⟩ = some (.int .i64 0) := (blk_cell BK653.out 0).trans rfl; have hcz10_1 : w8.cell? ⟨gb653, 1, none⟩ = some (.int .i64 0) := (blk_cell BK653.out 1).trans rfl; have hcz10_2 : w8.cell? ⟨gb653, 2, none⟩ = some (.string (⟨#[]⟩ : ByteArray)) := (blk_cell BK653.out 2).trans rfl; have hfz10_0 := blk_frozen BK653.out 0; have hfz10_1 := blk_frozen BK653.out 1; have hfz10_2 := blk_frozen BK653.out 2))
        go_meet
        case rel => exact ⟨_, (0), (0), ((⟨#[]⟩ : ByteArray)), (t654), (t655), (t656), H', ⟨by first | omega | exact Nat.le_refl _⟩, ⟨by (with_reducible repeat (first | refine zN ?_ _ | refine zD ?_ | refine zA ?_ _)); refine blk_far ?_ NB652_653.out _; (with_reducible repeat (first | refine zN ?_ _ | refine zD ?_ | refine zA ?_ _)); refine blk_far ?_ NB652_653.out _; (with_reducible repeat (first | refine zN ?_ _ | refine zD ?_ | refine zA ?_ _)); refine blk_far ?_ NB652_653.out _; (with_reducible repeat (first | refine zN ?_ _ | refine zD ?_ | refine zA ?_ _)); exact BK652.out⟩, ⟨by (with_reducible repeat (first | refine zN ?_ _ | refine zD ?_ | refine zA ?_ _)); refine blk_put (cs := #[.int .i64 t654, .int .i64 t655, .string (⟨#[]⟩ : ByteArray)]) ?_ 2 _ rfl; (with_reducible repeat (first | refine zN ?_ _ | refine zD ?_ | refine zA ?_ _)); refine blk_put (cs := #[.int .i64 t654, .int .i64 0, .string (⟨#[]⟩ : ByteArray)]) ?_ 1 _ rfl; (with_reducible repeat (first | refine zN ?_ _ | refine zD ?_ | refine zA ?_ _)); refine blk_put (cs := #[.int .i64 0, .int .i64 0, .string (⟨#[]⟩ : ByteArray)]) ?_ 0 _ rfl; (with_reducible repeat (first | refine zN ?_ _ | refine zD ?_ | refine zA ?_ _)); exact BK653.out⟩, ⟨by repeat (first | (with_reducible first | exact HB.out | apply yA | apply yN | apply yD | refine below_set ?_ GE652.out | refine below_set ?_ GE653.out) | exact HB.out)⟩⟩
      · rw [if_neg c6] at H
        have c6b0 : (a0.toList == ([116, 114, 117, 101] : List UInt8)) = false := beq_eq_false_iff_ne.mpr c6
        have c6b1 : (a0.toList != ([116, 114, 117, 101] : List UInt8)) = true := bne_iff_ne.mpr c6
        by_cases c11 : a0.toList = ([102, 97, 108, 115, 101] : List UInt8)
        · rw [if_pos c11] at H
          have c11b0 : (a0.toList == ([102, 97, 108, 115, 101] : List UInt8)) = true := beq_iff_eq.mpr c11
          have c11b1 : (a0.toList != ([102, 97, 108, 115, 101] : List UInt8)) = false := bne_eq_false_iff_eq.mpr c11
          clear c11
          replace H := Option.bind_eq_some_iff.mp H
          obtain ⟨⟨t657, t658, t659⟩, A120, H⟩ := H
          replace H : (value_Read.j1 k a0 t657 t658 t659) = some (r1, r2, r3, r4) := H
          have A12 := Aside0.mk A120
          clear A120
          have H' := Aside0.mk H
          clear H
          go_wp2_with (first | ((with_reducible refine gate_callee (f := 166) rfl ?_); refine goesL_ (some 27) rfl rfl Tryz.func166 (by kernel_rfl) rfl #[] rfl (by (try simp only [List.map_toArray, List.map_cons, List.map_nil]); first | done | rfl | (simp only [List.length_drop, List.length_take]; rfl)) ?_; (with_reducible refine (value_False.calls  t657 t658 t659 _ A12.out).mono ?_); rintro e w13 ⟨rfl, hb⟩; refine ⟨_, rfl, ?_⟩; have n0_ := Aside0.mk (blk_below (g := gb652) (o := .cells #[.int .i64 0, .int .i64 0, .string (⟨#[]⟩ : ByteArray)] 61 (0, 0)) (by (with_reducible repeat (first | refine zN ?_ _ | refine zD ?_ | refine zA ?_ _)); exact BK652.out) hb); have n1_ := Aside0.mk (blk_below (g := gb653) (o := .cells #[.int .i64 0, .int .i64 0, .string (⟨#[]⟩ : ByteArray)] 61 (0, 0)) (by (with_reducible repeat (first | refine zN ?_ _ | refine zD ?_ | refine zA ?_ _)); exact BK653.out) hb); have n2_ := Aside0.mk (below_step (by repeat (first | (with_reducible first | exact HB.out | apply yA | apply yN | apply yD | refine below_set ?_ GE652.out | refine below_set ?_ GE653.out) | exact HB.out)) hb); clear BK652; clear BK653; clear HB; have BK652 := n0_; have BK653 := n1_; have HB := n2_; clear n0_ n1_ n2_; (try clear hb); (try clear hb2); (try clear hk); (try clear hi); have hnb14 := NB653_652.out; have hnc14 := NB652_653.out; have hcz15_0 : w13.cell? ⟨gb653, 0, none⟩ = some (.int .i64 0) := (blk_cell BK653.out 0).trans rfl; have hcz15_1 : w13.cell? ⟨gb653, 1, none⟩ = some (.int .i64 0) := (blk_cell BK653.out 1).trans rfl; have hcz15_2 : w13.cell? ⟨gb653, 2, none⟩ = some (.string (⟨#[]⟩ : ByteArray)) := (blk_cell BK653.out 2).trans rfl; have hfz15_0 := blk_frozen BK653.out 0; have hfz15_1 := blk_frozen BK653.out 1; have hfz15_2 := blk_frozen BK653.out 2))
          go_meet
          case rel => exact ⟨_, (0), (0), ((⟨#[]⟩ : ByteArray)), (t657), (t658), (t659), H', ⟨by first | omega | exact Nat.le_refl _⟩, ⟨by (with_reducible repeat (first | refine zN ?_ _ | refine zD ?_ | refine zA ?_ _)); refine blk_far ?_ NB652_653.out _; (with_reducible repeat (first | refine zN ?_ _ | refine zD ?_ | refine zA ?_ _)); refine blk_far ?_ NB652_653.out _; (with_reducible repeat (first | refine zN ?_ _ | refine zD ?_ | refine zA ?_ _)); refine blk_far ?_ NB652_653.out _; (with_reducible repeat (first | refine zN ?_ _ | refine zD ?_ | refine zA ?_ _)); exact BK652.out⟩, ⟨by (with_reducible repeat (first | refine zN ?_ _ | refine zD ?_ | refine zA ?_ _)); refine blk_put (cs := #[.int .i64 t657, .int .i64 t658, .string (⟨#[]⟩ : ByteArray)]) ?_ 2 _ rfl; (with_reducible repeat (first | refine zN ?_ _ | refine zD ?_ | refine zA ?_ _)); refine blk_put (cs := #[.int .i64 t657, .int .i64 0, .string (⟨#[]⟩ : ByteArray)]) ?_ 1 _ rfl; (with_reducible repeat (first | refine zN ?_ _ | refine zD ?_ | refine zA ?_ _)); refine blk_put (cs := #[.int .i64 0, .int .i64 0, .string (⟨#[]⟩ : ByteArray)]) ?_ 0 _ rfl; (with_reducible repeat (first | refine zN ?_ _ | refine zD ?_ | refine zA ?_ _)); exact BK653.out⟩, ⟨by repeat (first | (with_reducible first | exact HB.out | apply yA | apply yN | apply yD | refine below_set ?_ GE652.out | refine below_set ?_ GE653.out) | exact HB.out)⟩⟩
        · rw [if_neg c11] at H
          have c11b0 : (a0.toList == ([102, 97, 108, 115, 101] : List UInt8)) = false := beq_eq_false_iff_ne.mpr c11
          have c11b1 : (a0.toList != ([102, 97, 108, 115, 101] : List UInt8)) = true := bne_iff_ne.mpr c11
          have HC16 := Aside0.mk H
          clear H
          go_upto_region 11 with (fail)
          go_cut [28] (fun v28 wc => ∃ (kq : Nat) (x28_15 : Bool), v28 = .bool x28_15 ∧ Aside0 (value_Read.j0 kq a0 x28_15 = some (r1, r2, r3, r4)) ∧ Aside0 (kq ≤ k) ∧ Aside0 (wc.heap[gb652]? = some (.cells #[.int .i64 0, .int .i64 0, .string (⟨#[]⟩ : ByteArray)] 61 (0, 0))) ∧ Aside0 (wc.heap[gb653]? = some (.cells #[.int .i64 0, .int .i64 0, .string (⟨#[]⟩ : ByteArray)] 61 (0, 0))) ∧ Aside0 (Below w.heap.size w wc))
          case first =>
            have H := HC16.out
            clear HC16
            by_cases c17 : (a0.size : Int) > 1
            · rw [if_pos c17] at H
              have c17b0 : decide (1 < (a0.size : Int)) = true := decide_eq_true c17
              have c17b1 : decide (1 < a0.size) = true := decide_eq_true (by omega)
              clear c17
              (first | rw [c17b0] | (simp only [i64_w, i32_w]; rw [c17b0]) | skip)
              by_cases c18 : 0 < (a0.size : Int)
              · rw [if_pos c18] at H
                have c18b0 : decide (0 < (a0.size : Int)) = true := decide_eq_true c18
                have c18b1 : decide (0 < a0.size) = true := decide_eq_true (by omega)
                clear c18
                by_cases c20 : (bt a0 0) = 39
                · rw [if_pos c20] at H
                  have c20b0 : ((bt a0 0) == 39) = true := beq_iff_eq.mpr c20
                  have c20b1 : ((bt a0 0) != 39) = false := bne_eq_false_iff_eq.mpr c20
                  clear c20
                  obtain ⟨ji21, hji21⟩ : ∃ j_ : Int, (wrap64 ((a0.size : Int) - 1)) = j_ := ⟨_, rfl⟩
                  replace H : (if 0 ≤ (ji21) then (if (ji21) < (a0.size : Int) then (value_Read.j0 k a0 ((bt a0 (ji21)) == 39)) else (none)) else (none)) = some (r1, r2, r3, r4) := by first | (rw [hji21] at H; exact H) | (simp only [hji21] at H ⊢; exact H)
                  have hji21w : (IntKind.i64.wrap ((a0.size : Int) - 1)) = ji21 := (i64_w _).trans hji21
                  by_cases c22 : 0 ≤ (ji21)
                  · rw [if_pos c22] at H
                    have c22b0 : decide (0 ≤ (ji21)) = true := decide_eq_true c22
                    clear c22
                    by_cases c23 : (ji21) < (a0.size : Int)
                    · rw [if_pos c23] at H
                      have c23b0 : decide ((ji21) < (a0.size : Int)) = true := decide_eq_true c23
                      clear c23
                      have H' := Aside0.mk H
                      clear H
                      have p19 : 0 ≤ (0 : Int) := (by omega)
                      have q19 : 0 < a0.size := (by have : (0 : Int) < (a0.size : Int) := of_decide_eq_true (by first | (with_reducible assumption) | assumption); omega)
                      have hx19 : ∀ h : 0 < a0.size, ((a0[0]'h).toNat : Int) = bt a0 0 := bt_at a0 0
                      clear p19
                      have qi19 : (0 < (a0.size : Int)) = True := eq_true (of_decide_eq_true (by first | (with_reducible assumption) | assumption))
                      replace q19 := eq_true q19
                      have p24 : 0 ≤ ((ji21) : Int) := of_decide_eq_true (by first | (with_reducible assumption) | assumption)
                      have q24 : (ji21) < (a0.size : Int) := of_decide_eq_true (by first | (with_reducible assumption) | assumption)
                      have hx24 := bt_at a0 (ji21)
                      replace p24 := eq_true p24
                      replace q24 := eq_true q24
                      go_wp2
                      go_meet
                      case rel => exact ⟨_, (((bt a0 (ji21)) == 39)), (by first | rfl | (simp; done) | (simp only [← hji21] <;> (first | rfl | simp)) | (simp [*]; done)), (by first | exact H' | (rw [hji21]; exact H') | (simp only [hji21]; exact H')), ⟨by first | omega | exact Nat.le_refl _⟩, ⟨by (with_reducible repeat (first | refine zN ?_ _ | refine zD ?_ | refine zA ?_ _)); exact BK652.out⟩, ⟨by (with_reducible repeat (first | refine zN ?_ _ | refine zD ?_ | refine zA ?_ _)); exact BK653.out⟩, ⟨by repeat (first | (with_reducible first | exact HB.out | apply yA | apply yN | apply yD | refine below_set ?_ GE652.out | refine below_set ?_ GE653.out) | exact HB.out)⟩⟩
                    · rw [if_neg c23] at H
                      exact absurd H (by simp)
                  · rw [if_neg c22] at H
                    exact absurd H (by simp)
                · rw [if_neg c20] at H
                  have c20b0 : ((bt a0 0) == 39) = false := beq_eq_false_iff_ne.mpr c20
                  have c20b1 : ((bt a0 0) != 39) = true := bne_iff_ne.mpr c20
                  have H' := Aside0.mk H
                  clear H
                  have p19 : 0 ≤ (0 : Int) := (by omega)
                  have q19 : 0 < a0.size := (by have : (0 : Int) < (a0.size : Int) := of_decide_eq_true (by first | (with_reducible assumption) | assumption); omega)
                  have hx19 : ∀ h : 0 < a0.size, ((a0[0]'h).toNat : Int) = bt a0 0 := bt_at a0 0
                  clear p19
                  have qi19 : (0 < (a0.size : Int)) = True := eq_true (of_decide_eq_true (by first | (with_reducible assumption) | assumption))
                  replace q19 := eq_true q19
                  go_wp2
                  go_meet
                  case rel => exact ⟨_, (false), (by first | rfl | (simp; done) | (simp [*]; done)), H', ⟨by first | omega | exact Nat.le_refl _⟩, ⟨by (with_reducible repeat (first | refine zN ?_ _ | refine zD ?_ | refine zA ?_ _)); exact BK652.out⟩, ⟨by (with_reducible repeat (first | refine zN ?_ _ | refine zD ?_ | refine zA ?_ _)); exact BK653.out⟩, ⟨by repeat (first | (with_reducible first | exact HB.out | apply yA | apply yN | apply yD | refine below_set ?_ GE652.out | refine below_set ?_ GE653.out) | exact HB.out)⟩⟩
              · rw [if_neg c18] at H
                exact absurd H (by simp)
            · rw [if_neg c17] at H
              have c17b0 : decide (1 < (a0.size : Int)) = false := decide_eq_false c17
              have c17b1 : decide (1 < a0.size) = false := decide_eq_false (by omega)
              clear c17
              (first | rw [c17b0] | (simp only [i64_w, i32_w]; rw [c17b0]) | skip)
              have H' := Aside0.mk H
              clear H
              go_wp2
              go_meet
              case rel => exact ⟨_, (false), (by first | rfl | (simp; done) | (simp [*]; done)), H', ⟨by first | omega | exact Nat.le_refl _⟩, ⟨by (with_reducible repeat (first | refine zN ?_ _ | refine zD ?_ | refine zA ?_ _)); exact BK652.out⟩, ⟨by (with_reducible repeat (first | refine zN ?_ _ | refine zD ?_ | refine zA ?_ _)); exact BK653.out⟩, ⟨by repeat (first | (with_reducible first | exact HB.out | apply yA | apply yN | apply yD | refine below_set ?_ GE652.out | refine below_set ?_ GE653.out) | exact HB.out)⟩⟩
          case rest =>
            clear HC16
            try clear c1
            try clear p1
            try clear q1
            try clear hx1
            try clear qi1
            try clear c2
            try clear p2
            try clear q2
            try clear hx2
            try clear c5
            try clear c5b0
            try clear c5b1
            try clear c6
            try clear c6b0
            try clear c6b1
            try clear p6
            try clear c9
            try clear c11
            try clear c11b0
            try clear c11b1
            try clear c14
            try clear c15
            try clear c16
            try clear c17
            try clear c17b0
            try clear c17b1
            try clear c18
            try clear c18b0
            try clear c18b1
            try clear p19
            try clear q19
            try clear hx19
            try clear qi19
            try clear c20
            try clear c20b0
            try clear c20b1
            try clear c22
            try clear c22b0
            try clear c23
            try clear c23b0
            try clear p24
            try clear q24
            try clear hx24
            try clear hcz10_0
            try clear hcz10_1
            try clear hcz10_2
            try clear hcz15_0
            try clear hcz15_1
            try clear hcz15_2
            try clear hfz10_0
            try clear hfz10_1
            try clear hfz10_2
            try clear hfz15_0
            try clear hfz15_1
            try clear hfz15_2
            try clear p19
            try clear p24
            try clear q19
            try clear q24
            obtain ⟨kq, x28_15, rfl, HA, HJ15, BK652, BK653, HB⟩ := hcut
            cases kq with
            | zero => exact absurd HA.out (by simp [value_Read.j0])
            | succ kj15 =>
              have H := HA.out
              clear HA
              simp only [value_Read.j0] at H
              by_cases c25 : x28_15 = true
              · subst c25
                have H1 : (if 1 ≤ (wrap64 ((a0.size : Int) - 1)) then (if (wrap64 ((a0.size : Int) - 1)) ≤ (a0.size : Int) then ((strings_ReplaceAll.f (a0.extract 1 ((wrap64 ((a0.size : Int) - 1)) : Int).toNat) (⟨#[39, 39]⟩ : ByteArray) (⟨#[39]⟩ : ByteArray)).bind fun t660 => (value_Read.j1 kj15 a0 3 0 t660)) else (none)) else (none)) = some (r1, r2, r3, r4) := by rw [if_pos rfl] at H; exact H
                clear H
                have H := H1
                clear H1
                by_cases c26 : 1 ≤ (wrap64 ((a0.size : Int) - 1))
                · rw [if_pos c26] at H
                  have c26b0 := eq_true c26
                  have c26b1 : decide (1 ≤ (wrap64 ((a0.size : Int) - 1))) = true := decide_eq_true c26
                  clear c26
                  by_cases c27 : (wrap64 ((a0.size : Int) - 1)) ≤ (a0.size : Int)
                  · rw [if_pos c27] at H
                    have c27b0 := eq_true c27
                    have c27b1 : decide ((wrap64 ((a0.size : Int) - 1)) ≤ (a0.size : Int)) = true := decide_eq_true c27
                    clear c27
                    replace H := Option.bind_eq_some_iff.mp H
                    obtain ⟨t660, A280, H⟩ := H
                    replace H : (value_Read.j1 kj15 a0 3 0 t660) = some (r1, r2, r3, r4) := H
                    have A28 := Aside0.mk A280
                    clear A280
                    have H' := Aside0.mk H
                    clear H
                    go_wp2_with (first | ((with_reducible refine gate_callee (f := 149) rfl ?_); refine goesL_ (some 50) rfl rfl Tryz.func149 (by kernel_rfl) rfl #[.string (a0.extract 1 ((wrap64 ((a0.size : Int) - 1)) : Int).toNat), .string (⟨#[39, 39]⟩ : ByteArray), .string (⟨#[39]⟩ : ByteArray)] rfl (by (try simp only [List.map_toArray, List.map_cons, List.map_nil]); first | done | rfl | (simp only [List.length_drop, List.length_take]; rfl)) ?_; (with_reducible refine (strings_ReplaceAll.calls (a0.extract 1 ((wrap64 ((a0.size : Int) - 1)) : Int).toNat) (⟨#[39, 39]⟩ : ByteArray) (⟨#[39]⟩ : ByteArray) t660 _ ?side1 A28.out).mono ?_); (case side1 => exact Laid.below HLD.out.base (by repeat (first | (with_reducible first | exact HB.out | apply yA | apply yN | apply yD | refine below_set ?_ GE652.out | refine below_set ?_ GE653.out) | exact HB.out))); rintro e w29 ⟨rfl, hb⟩; refine ⟨_, rfl, ?_⟩; have n0_ := Aside0.mk (blk_below (g := gb652) (o := .cells #[.int .i64 0, .int .i64 0, .string (⟨#[]⟩ : ByteArray)] 61 (0, 0)) (by (with_reducible repeat (first | refine zN ?_ _ | refine zD ?_ | refine zA ?_ _)); exact BK652.out) hb); have n1_ := Aside0.mk (blk_below (g := gb653) (o := .cells #[.int .i64 0, .int .i64 0, .string (⟨#[]⟩ : ByteArray)] 61 (0, 0)) (by (with_reducible repeat (first | refine zN ?_ _ | refine zD ?_ | refine zA ?_ _)); exact BK653.out) hb); have n2_ := Aside0.mk (below_step (by repeat (first | (with_reducible first | exact HB.out | apply yA | apply yN | apply yD | refine below_set ?_ GE652.out | refine below_set ?_ GE653.out) | exact HB.out)) hb); clear BK652; clear BK653; clear HB; have BK652 := n0_; have BK653 := n1_; have HB := n2_; clear n0_ n1_ n2_; (try clear hb); (try clear hb2); (try clear hk); (try clear hi); have hnb30 := NB653_652.out; have hnc30 := NB652_653.out; have hcz31_0 : w29.cell? ⟨gb653, 0, none⟩ = some (.int .i64 0) := (blk_cell BK653.out 0).trans rfl; have hcz31_1 : w29.cell? ⟨gb653, 1, none⟩ = some (.int .i64 0) := (blk_cell BK653.out 1).trans rfl; have hcz31_2 : w29.cell? ⟨gb653, 2, none⟩ = some (.string (⟨#[]⟩ : ByteArray)) := (blk_cell BK653.out 2).trans rfl; have hfz31_0 := blk_frozen BK653.out 0; have hfz31_1 := blk_frozen BK653.out 1; have hfz31_2 := blk_frozen BK653.out 2))
                    go_meet
                    case rel => exact ⟨_, (0), (0), ((⟨#[]⟩ : ByteArray)), (3), (0), (t660), H', ⟨by have := HJ15.out; first | omega | exact Nat.le_refl _⟩, ⟨by (with_reducible repeat (first | refine zN ?_ _ | refine zD ?_ | refine zA ?_ _)); refine blk_far ?_ NB652_653.out _; (with_reducible repeat (first | refine zN ?_ _ | refine zD ?_ | refine zA ?_ _)); refine blk_far ?_ NB652_653.out _; (with_reducible repeat (first | refine zN ?_ _ | refine zD ?_ | refine zA ?_ _)); refine blk_far ?_ NB652_653.out _; (with_reducible repeat (first | refine zN ?_ _ | refine zD ?_ | refine zA ?_ _)); exact BK652.out⟩, ⟨by (with_reducible repeat (first | refine zN ?_ _ | refine zD ?_ | refine zA ?_ _)); refine blk_put (cs := #[.int .i64 3, .int .i64 0, .string (⟨#[]⟩ : ByteArray)]) ?_ 2 _ rfl; (with_reducible repeat (first | refine zN ?_ _ | refine zD ?_ | refine zA ?_ _)); refine blk_put (cs := #[.int .i64 3, .int .i64 0, .string (⟨#[]⟩ : ByteArray)]) ?_ 1 _ rfl; (with_reducible repeat (first | refine zN ?_ _ | refine zD ?_ | refine zA ?_ _)); refine blk_put (cs := #[.int .i64 0, .int .i64 0, .string (⟨#[]⟩ : ByteArray)]) ?_ 0 _ rfl; (with_reducible repeat (first | refine zN ?_ _ | refine zD ?_ | refine zA ?_ _)); exact BK653.out⟩, ⟨by repeat (first | (with_reducible first | exact HB.out | apply yA | apply yN | apply yD | refine below_set ?_ GE652.out | refine below_set ?_ GE653.out) | exact HB.out)⟩⟩
                  · rw [if_neg c27] at H
                    exact absurd H (by simp)
                · rw [if_neg c26] at H
                  exact absurd H (by simp)
              · replace c25 := Bool.eq_false_iff.mpr c25
                subst c25
                have H1 : ((strconv_ParseInt.f a0 10 64).bind fun bt661 => (if bt661.2.isNone = true then (value_Read.j1 kj15 a0 1 bt661.1 (⟨#[]⟩ : ByteArray)) else (some (0, 0, (⟨#[]⟩ : ByteArray), false)))) = some (r1, r2, r3, r4) := by rw [if_neg (show ¬ (false = true) by decide)] at H; exact H
                clear H
                have H := H1
                clear H1
                replace H := Option.bind_eq_some_iff.mp H
                obtain ⟨⟨t661, t662⟩, A320, H⟩ := H
                replace H : (if t662.isNone = true then (value_Read.j1 kj15 a0 1 t661 (⟨#[]⟩ : ByteArray)) else (some (0, 0, (⟨#[]⟩ : ByteArray), false))) = some (r1, r2, r3, r4) := H
                have A32 := Aside0.mk A320
                clear A320
                rcases t662 with _ | q663
                · have H1 : (value_Read.j1 kj15 a0 1 t661 (⟨#[]⟩ : ByteArray)) = some (r1, r2, r3, r4) := by rw [if_pos (show (none : Option Int).isNone = true by rfl)] at H; exact H
                  clear H
                  have H := H1
                  clear H1
                  try simp only [errW_none, errW_some]
                  have H' := Aside0.mk H
                  clear H
                  go_wp2_with (first | ((with_reducible refine gate_callee (f := 167) rfl ?_); refine goesL_ (some 9) rfl rfl Tryz.func167 (by kernel_rfl) rfl #[.string a0, .int .i64 10, .int .i64 64] rfl (by (try simp only [List.map_toArray, List.map_cons, List.map_nil]); first | done | rfl | (simp only [List.length_drop, List.length_take]; rfl)) ?_; (with_reducible refine (strconv_ParseInt.calls a0 10 64 t661 none _ ?side1 A32.out).mono ?_); (case side1 => exact LaidE.below HLD.out (by repeat (first | (with_reducible first | exact HB.out | apply yA | apply yN | apply yD | refine below_set ?_ GE652.out | refine below_set ?_ GE653.out) | exact HB.out))); rintro e w33 ⟨ev_, rfl, hev_, hb⟩; (first | (obtain rfl := errR_none hev_) | (obtain ⟨T_, x_, rfl⟩ := errR_some hev_)); refine ⟨_, rfl, ?_⟩; have n0_ := Aside0.mk (blk_below (g := gb652) (o := .cells #[.int .i64 0, .int .i64 0, .string (⟨#[]⟩ : ByteArray)] 61 (0, 0)) (by (with_reducible repeat (first | refine zN ?_ _ | refine zD ?_ | refine zA ?_ _)); exact BK652.out) hb); have n1_ := Aside0.mk (blk_below (g := gb653) (o := .cells #[.int .i64 0, .int .i64 0, .string (⟨#[]⟩ : ByteArray)] 61 (0, 0)) (by (with_reducible repeat (first | refine zN ?_ _ | refine zD ?_ | refine zA ?_ _)); exact BK653.out) hb); have n2_ := Aside0.mk (below_step (by repeat (first | (with_reducible first | exact HB.out | apply yA | apply yN | apply yD | refine below_set ?_ GE652.out | refine below_set ?_ GE653.out) | exact HB.out)) hb); clear BK652; clear BK653; clear HB; have BK652 := n0_; have BK653 := n1_; have HB := n2_; clear n0_ n1_ n2_; (try clear hb); (try clear hb2); (try clear hk); (try clear hi); (try simp only [errW_none, errW_some]); have hnb34 := NB653_652.out; have hnc34 := NB652_653.out; have hcz35_0 : w33.cell? ⟨gb653, 0, none⟩ = some (.int .i64 0) := (blk_cell BK653.out 0).trans rfl; have hcz35_1 : w33.cell? ⟨gb653, 1, none⟩ = some (.int .i64 0) := (blk_cell BK653.out 1).trans rfl; have hcz35_2 : w33.cell? ⟨gb653, 2, none⟩ = some (.string (⟨#[]⟩ : ByteArray)) := (blk_cell BK653.out 2).trans rfl; have hfz35_0 := blk_frozen BK653.out 0; have hfz35_1 := blk_frozen BK653.out 1; have hfz35_2 := blk_frozen BK653.out 2))
                  go_meet
                  case rel => exact ⟨_, (0), (0), ((⟨#[]⟩ : ByteArray)), (1), (t661), ((⟨#[]⟩ : ByteArray)), H', ⟨by have := HJ15.out; first | omega | exact Nat.le_refl _⟩, ⟨by (with_reducible repeat (first | refine zN ?_ _ | refine zD ?_ | refine zA ?_ _)); refine blk_far ?_ NB652_653.out _; (with_reducible repeat (first | refine zN ?_ _ | refine zD ?_ | refine zA ?_ _)); refine blk_far ?_ NB652_653.out _; (with_reducible repeat (first | refine zN ?_ _ | refine zD ?_ | refine zA ?_ _)); refine blk_far ?_ NB652_653.out _; (with_reducible repeat (first | refine zN ?_ _ | refine zD ?_ | refine zA ?_ _)); exact BK652.out⟩, ⟨by (with_reducible repeat (first | refine zN ?_ _ | refine zD ?_ | refine zA ?_ _)); refine blk_put (cs := #[.int .i64 1, .int .i64 t661, .string (⟨#[]⟩ : ByteArray)]) ?_ 2 _ rfl; (with_reducible repeat (first | refine zN ?_ _ | refine zD ?_ | refine zA ?_ _)); refine blk_put (cs := #[.int .i64 1, .int .i64 0, .string (⟨#[]⟩ : ByteArray)]) ?_ 1 _ rfl; (with_reducible repeat (first | refine zN ?_ _ | refine zD ?_ | refine zA ?_ _)); refine blk_put (cs := #[.int .i64 0, .int .i64 0, .string (⟨#[]⟩ : ByteArray)]) ?_ 0 _ rfl; (with_reducible repeat (first | refine zN ?_ _ | refine zD ?_ | refine zA ?_ _)); exact BK653.out⟩, ⟨by repeat (first | (with_reducible first | exact HB.out | apply yA | apply yN | apply yD | refine below_set ?_ GE652.out | refine below_set ?_ GE653.out) | exact HB.out)⟩⟩
                · have H1 : (some (0, 0, (⟨#[]⟩ : ByteArray), false)) = some (r1, r2, r3, r4) := by rw [if_neg (show ¬ (some q663).isNone = true by simp)] at H; exact H
                  clear H
                  have H := H1
                  clear H1
                  try simp only [errW_none, errW_some]
                  simp only [Option.some.injEq, Prod.mk.injEq] at H
                  obtain ⟨rfl, rfl, rfl, rfl⟩ := H
                  go_wp2_with (first | ((with_reducible refine gate_callee (f := 167) rfl ?_); refine goesL_ (some 9) rfl rfl Tryz.func167 (by kernel_rfl) rfl #[.string a0, .int .i64 10, .int .i64 64] rfl (by (try simp only [List.map_toArray, List.map_cons, List.map_nil]); first | done | rfl | (simp only [List.length_drop, List.length_take]; rfl)) ?_; (with_reducible refine (strconv_ParseInt.calls a0 10 64 t661 (some q663) _ ?side1 A32.out).mono ?_); (case side1 => exact LaidE.below HLD.out (by repeat (first | (with_reducible first | exact HB.out | apply yA | apply yN | apply yD | refine below_set ?_ GE652.out | refine below_set ?_ GE653.out) | exact HB.out))); rintro e w36 ⟨ev_, rfl, hev_, hb⟩; (first | (obtain rfl := errR_none hev_) | (obtain ⟨T_, x_, rfl⟩ := errR_some hev_)); refine ⟨_, rfl, ?_⟩; have n0_ := Aside0.mk (blk_below (g := gb652) (o := .cells #[.int .i64 0, .int .i64 0, .string (⟨#[]⟩ : ByteArray)] 61 (0, 0)) (by (with_reducible repeat (first | refine zN ?_ _ | refine zD ?_ | refine zA ?_ _)); exact BK652.out) hb); have n1_ := Aside0.mk (blk_below (g := gb653) (o := .cells #[.int .i64 0, .int .i64 0, .string (⟨#[]⟩ : ByteArray)] 61 (0, 0)) (by (with_reducible repeat (first | refine zN ?_ _ | refine zD ?_ | refine zA ?_ _)); exact BK653.out) hb); have n2_ := Aside0.mk (below_step (by repeat (first | (with_reducible first | exact HB.out | apply yA | apply yN | apply yD | refine below_set ?_ GE652.out | refine below_set ?_ GE653.out) | exact HB.out)) hb); clear BK652; clear BK653; clear HB; have BK652 := n0_; have BK653 := n1_; have HB := n2_; clear n0_ n1_ n2_; (try clear hb); (try clear hb2); (try clear hk); (try clear hi); (try simp only [errW_none, errW_some]); have hnb37 := NB652_653.out; have hnc37 := NB653_652.out; have hcz38_0 : w36.cell? ⟨gb652, 0, none⟩ = some (.int .i64 0) := (blk_cell BK652.out 0).trans rfl; have hcz38_1 : w36.cell? ⟨gb652, 1, none⟩ = some (.int .i64 0) := (blk_cell BK652.out 1).trans rfl; have hcz38_2 : w36.cell? ⟨gb652, 2, none⟩ = some (.string (⟨#[]⟩ : ByteArray)) := (blk_cell BK652.out 2).trans rfl; have hfz38_0 := blk_frozen BK652.out 0; have hfz38_1 := blk_frozen BK652.out 1; have hfz38_2 := blk_frozen BK652.out 2))
                  refine bodyPost_ret (results_ct rfl _ _ gb652 61 #[.int .i64 0, .int .i64 0, .string (⟨#[]⟩ : ByteArray)] (0, 0) _ rfl (by (with_reducible repeat (first | refine zN ?_ _ | refine zD ?_ | refine zA ?_ _)); refine blk_put (cs := #[.int .i64 0, .int .i64 0, .string (⟨#[]⟩ : ByteArray)]) ?_ 2 _ rfl; (with_reducible repeat (first | refine zN ?_ _ | refine zD ?_ | refine zA ?_ _)); refine blk_put (cs := #[.int .i64 0, .int .i64 0, .string (⟨#[]⟩ : ByteArray)]) ?_ 1 _ rfl; (with_reducible repeat (first | refine zN ?_ _ | refine zD ?_ | refine zA ?_ _)); refine blk_put (cs := #[.int .i64 0, .int .i64 0, .string (⟨#[]⟩ : ByteArray)]) ?_ 0 _ rfl; (with_reducible repeat (first | refine zN ?_ _ | refine zD ?_ | refine zA ?_ _)); exact BK652.out) Tryz.underlying61 rfl (by kernel_rfl)) rfl ?_
                  exact ⟨by first | rfl | (simp [errW_none, errW_some] <;> rfl) | (simp [*, errW_none, errW_some] <;> rfl), by repeat (first | (with_reducible first | exact HB.out | apply yA | apply yN | apply yD | refine below_set ?_ GE652.out | refine below_set ?_ GE653.out) | exact HB.out)⟩
  case rest =>
    clear HC2
    try clear c1
    try clear p1
    try clear q1
    try clear hx1
    try clear qi1
    try clear c2
    try clear p2
    try clear q2
    try clear hx2
    try clear c3
    try clear c5
    try clear c5b0
    try clear c5b1
    try clear c6
    try clear c6b0
    try clear c6b1
    try clear p6
    try clear q6
    try clear c9
    try clear c11
    try clear c11b0
    try clear c11b1
    try clear c14
    try clear c15
    try clear c16
    try clear c17
    try clear c17b0
    try clear c17b1
    try clear c18
    try clear c18b0
    try clear c18b1
    try clear p19
    try clear q19
    try clear hx19
    try clear qi19
    try clear c20
    try clear c20b0
    try clear c20b1
    try clear c22
    try clear c22b0
    try clear c23
    try clear c23b0
    try clear p24
    try clear q24
    try clear hx24
    try clear c25
    try clear c26
    try clear c26b0
    try clear c26b1
    try clear c27
    try clear c27b0
    try clear c27b1
    try clear c30
    try clear c34
    try clear c37
    try clear hcz10_0
    try clear hcz10_1
    try clear hcz10_2
    try clear hcz15_0
    try clear hcz15_1
    try clear hcz15_2
    try clear hcz31_0
    try clear hcz31_1
    try clear hcz31_2
    try clear hcz35_0
    try clear hcz35_1
    try clear hcz35_2
    try clear hcz38_0
    try clear hcz38_1
    try clear hcz38_2
    try clear hfz10_0
    try clear hfz10_1
    try clear hfz10_2
    try clear hfz15_0
    try clear hfz15_1
    try clear hfz15_2
    try clear hfz31_0
    try clear hfz31_1
    try clear hfz31_2
    try clear hfz35_0
    try clear hfz35_1
    try clear hfz35_2
    try clear hfz38_0
    try clear hfz38_1
    try clear hfz38_2
    try clear p1
    try clear p19
    try clear p2
    try clear p24
    try clear p6
    try clear q1
    try clear q19
    try clear q2
    try clear q24
    try clear q663
    obtain ⟨kq, x653000_1, x653001_1, x653002_1, x654000_1, x654001_1, x654002_1, HA, HJ1, BK652, BK653, HB⟩ := hcut
    cases kq with
    | zero => exact absurd HA.out (by simp [value_Read.j1])
    | succ kj1 =>
      have H := HA.out
      clear HA
      simp only [value_Read.j1] at H
      replace H := Option.bind_eq_some_iff.mp H
      obtain ⟨t664, A390, H⟩ := H
      replace H : (if t664 = true then ((value_Written.f x654000_1 x654001_1 x654002_1).bind fun t665 => (if t665.toList = a0.toList then (some (x654000_1, x654001_1, x654002_1, true)) else (some (0, 0, (⟨#[]⟩ : ByteArray), false)))) else (some (0, 0, (⟨#[]⟩ : ByteArray), false))) = some (r1, r2, r3, r4) := H
      have A39 := Aside0.mk A390
      clear A390
      by_cases c40 : t664 = true
      · subst c40
        have H1 : ((value_Written.f x654000_1 x654001_1 x654002_1).bind fun t665 => (if t665.toList = a0.toList then (some (x654000_1, x654001_1, x654002_1, true)) else (some (0, 0, (⟨#[]⟩ : ByteArray), false)))) = some (r1, r2, r3, r4) := by rw [if_pos rfl] at H; exact H
        clear H
        have H := H1
        clear H1
        replace H := Option.bind_eq_some_iff.mp H
        obtain ⟨t665, A410, H⟩ := H
        replace H : (if t665.toList = a0.toList then (some (x654000_1, x654001_1, x654002_1, true)) else (some (0, 0, (⟨#[]⟩ : ByteArray), false))) = some (r1, r2, r3, r4) := H
        have A41 := Aside0.mk A410
        clear A410
        by_cases c42 : t665.toList = a0.toList
        · rw [if_pos c42] at H
          have c42b0 : (t665.toList == a0.toList) = true := beq_iff_eq.mpr c42
          have c42b1 : (t665.toList != a0.toList) = false := bne_eq_false_iff_eq.mpr c42
          clear c42
          simp only [Option.some.injEq, Prod.mk.injEq] at H
          obtain ⟨rfl, rfl, rfl, rfl⟩ := H
          have hnb43 := NB653_652.out
          have hnc43 := NB652_653.out
          have hcz44_0 : wc.cell? ⟨gb653, 0, none⟩ = some (.int .i64 x654000_1) := (blk_cell BK653.out 0).trans rfl
          have hcz44_1 : wc.cell? ⟨gb653, 1, none⟩ = some (.int .i64 x654001_1) := (blk_cell BK653.out 1).trans rfl
          have hcz44_2 : wc.cell? ⟨gb653, 2, none⟩ = some (.string x654002_1) := (blk_cell BK653.out 2).trans rfl
          have hfz44_0 := blk_frozen BK653.out 0
          have hfz44_1 := blk_frozen BK653.out 1
          have hfz44_2 := blk_frozen BK653.out 2
          go_wp2_with (first | ((with_reducible refine gate_callee (f := 89) rfl ?_); refine goesL_ (some 53) rfl rfl Tryz.func89 (by kernel_rfl) rfl #[.agg #[.int .i64 x654000_1, .int .i64 x654001_1, .string x654002_1]] rfl (by (try simp only [List.map_toArray, List.map_cons, List.map_nil]); first | done | rfl | (simp only [List.length_drop, List.length_take]; rfl)) ?_; (with_reducible refine (value_Is_s.calls x654000_1 x654001_1 x654002_1 true _ A39.out).mono ?_); rintro e w45 ⟨rfl, hb⟩; refine ⟨_, rfl, ?_⟩; have n0_ := Aside0.mk (blk_below (g := gb652) (o := .cells #[.int .i64 x653000_1, .int .i64 x653001_1, .string x653002_1] 61 (0, 0)) (by (with_reducible repeat (first | refine zN ?_ _ | refine zD ?_ | refine zA ?_ _)); exact BK652.out) hb); have n1_ := Aside0.mk (blk_below (g := gb653) (o := .cells #[.int .i64 x654000_1, .int .i64 x654001_1, .string x654002_1] 61 (0, 0)) (by (with_reducible repeat (first | refine zN ?_ _ | refine zD ?_ | refine zA ?_ _)); exact BK653.out) hb); have n2_ := Aside0.mk (below_step (by repeat (first | (with_reducible first | exact HB.out | apply yA | apply yN | apply yD | refine below_set ?_ GE652.out | refine below_set ?_ GE653.out) | exact HB.out)) hb); clear BK652; clear BK653; clear HB; have BK652 := n0_; have BK653 := n1_; have HB := n2_; clear n0_ n1_ n2_; (try clear hb); (try clear hb2); (try clear hk); (try clear hi); have hcz46_0 : w45.cell? ⟨gb653, 0, none⟩ = some (.int .i64 x654000_1) := (blk_cell BK653.out 0).trans rfl; have hcz46_1 : w45.cell? ⟨gb653, 1, none⟩ = some (.int .i64 x654001_1) := (blk_cell BK653.out 1).trans rfl; have hcz46_2 : w45.cell? ⟨gb653, 2, none⟩ = some (.string x654002_1) := (blk_cell BK653.out 2).trans rfl; have hfz46_0 := blk_frozen BK653.out 0; have hfz46_1 := blk_frozen BK653.out 1; have hfz46_2 := blk_frozen BK653.out 2) | (go_at_call 117; (with_reducible refine (value_Written.calls x654000_1 x654001_1 x654002_1 t665 _ ?side1 A41.out).mono ?_); (case side1 => exact Laid.below HLD.out.base (by repeat (first | (with_reducible first | exact HB.out | apply yA | apply yN | apply yD | refine below_set ?_ GE652.out | refine below_set ?_ GE653.out) | exact HB.out))); rintro e w47 ⟨rfl, hb⟩; have n0_ := Aside0.mk (blk_below (g := gb652) (o := .cells #[.int .i64 x653000_1, .int .i64 x653001_1, .string x653002_1] 61 (0, 0)) (by (with_reducible repeat (first | refine zN ?_ _ | refine zD ?_ | refine zA ?_ _)); exact BK652.out) hb); have n1_ := Aside0.mk (blk_below (g := gb653) (o := .cells #[.int .i64 x654000_1, .int .i64 x654001_1, .string x654002_1] 61 (0, 0)) (by (with_reducible repeat (first | refine zN ?_ _ | refine zD ?_ | refine zA ?_ _)); exact BK653.out) hb); have n2_ := Aside0.mk (below_step (by repeat (first | (with_reducible first | exact HB.out | apply yA | apply yN | apply yD | refine below_set ?_ GE652.out | refine below_set ?_ GE653.out) | exact HB.out)) hb); clear BK652; clear BK653; clear HB; have BK652 := n0_; have BK653 := n1_; have HB := n2_; clear n0_ n1_ n2_; (try clear hb); (try clear hb2); (try clear hk); (try clear hi); have hcz48_0 : w47.cell? ⟨gb653, 0, none⟩ = some (.int .i64 x654000_1) := (blk_cell BK653.out 0).trans rfl; have hcz48_1 : w47.cell? ⟨gb653, 1, none⟩ = some (.int .i64 x654001_1) := (blk_cell BK653.out 1).trans rfl; have hcz48_2 : w47.cell? ⟨gb653, 2, none⟩ = some (.string x654002_1) := (blk_cell BK653.out 2).trans rfl; have hfz48_0 := blk_frozen BK653.out 0; have hfz48_1 := blk_frozen BK653.out 1; have hfz48_2 := blk_frozen BK653.out 2; have hcz49_0 : w47.cell? ⟨gb652, 0, none⟩ = some (.int .i64 x653000_1) := (blk_cell BK652.out 0).trans rfl; have hcz49_1 : w47.cell? ⟨gb652, 1, none⟩ = some (.int .i64 x653001_1) := (blk_cell BK652.out 1).trans rfl; have hcz49_2 : w47.cell? ⟨gb652, 2, none⟩ = some (.string x653002_1) := (blk_cell BK652.out 2).trans rfl; have hfz49_0 := blk_frozen BK652.out 0; have hfz49_1 := blk_frozen BK652.out 1; have hfz49_2 := blk_frozen BK652.out 2))
          refine bodyPost_ret (results_ct rfl _ _ gb652 61 #[.int .i64 x654000_1, .int .i64 x654001_1, .string x654002_1] (0, 0) _ rfl (by (with_reducible repeat (first | refine zN ?_ _ | refine zD ?_ | refine zA ?_ _)); refine blk_put (cs := #[.int .i64 x654000_1, .int .i64 x654001_1, .string x653002_1]) ?_ 2 _ rfl; (with_reducible repeat (first | refine zN ?_ _ | refine zD ?_ | refine zA ?_ _)); refine blk_put (cs := #[.int .i64 x654000_1, .int .i64 x653001_1, .string x653002_1]) ?_ 1 _ rfl; (with_reducible repeat (first | refine zN ?_ _ | refine zD ?_ | refine zA ?_ _)); refine blk_put (cs := #[.int .i64 x653000_1, .int .i64 x653001_1, .string x653002_1]) ?_ 0 _ rfl; (with_reducible repeat (first | refine zN ?_ _ | refine zD ?_ | refine zA ?_ _)); exact BK652.out) Tryz.underlying61 rfl (by kernel_rfl)) rfl ?_
          exact ⟨by first | rfl | (simp [errW_none, errW_some] <;> rfl) | (simp [*, errW_none, errW_some] <;> rfl), by repeat (first | (with_reducible first | exact HB.out | apply yA | apply yN | apply yD | refine below_set ?_ GE652.out | refine below_set ?_ GE653.out) | exact HB.out)⟩
        · rw [if_neg c42] at H
          have c42b0 : (t665.toList == a0.toList) = false := beq_eq_false_iff_ne.mpr c42
          have c42b1 : (t665.toList != a0.toList) = true := bne_iff_ne.mpr c42
          simp only [Option.some.injEq, Prod.mk.injEq] at H
          obtain ⟨rfl, rfl, rfl, rfl⟩ := H
          have hnb50 := NB653_652.out
          have hnc50 := NB652_653.out
          have hcz51_0 : wc.cell? ⟨gb653, 0, none⟩ = some (.int .i64 x654000_1) := (blk_cell BK653.out 0).trans rfl
          have hcz51_1 : wc.cell? ⟨gb653, 1, none⟩ = some (.int .i64 x654001_1) := (blk_cell BK653.out 1).trans rfl
          have hcz51_2 : wc.cell? ⟨gb653, 2, none⟩ = some (.string x654002_1) := (blk_cell BK653.out 2).trans rfl
          have hfz51_0 := blk_frozen BK653.out 0
          have hfz51_1 := blk_frozen BK653.out 1
          have hfz51_2 := blk_frozen BK653.out 2
          go_wp2_with (first | ((with_reducible refine gate_callee (f := 89) rfl ?_); refine goesL_ (some 53) rfl rfl Tryz.func89 (by kernel_rfl) rfl #[.agg #[.int .i64 x654000_1, .int .i64 x654001_1, .string x654002_1]] rfl (by (try simp only [List.map_toArray, List.map_cons, List.map_nil]); first | done | rfl | (simp only [List.length_drop, List.length_take]; rfl)) ?_; (with_reducible refine (value_Is_s.calls x654000_1 x654001_1 x654002_1 true _ A39.out).mono ?_); rintro e w52 ⟨rfl, hb⟩; refine ⟨_, rfl, ?_⟩; have n0_ := Aside0.mk (blk_below (g := gb652) (o := .cells #[.int .i64 x653000_1, .int .i64 x653001_1, .string x653002_1] 61 (0, 0)) (by (with_reducible repeat (first | refine zN ?_ _ | refine zD ?_ | refine zA ?_ _)); exact BK652.out) hb); have n1_ := Aside0.mk (blk_below (g := gb653) (o := .cells #[.int .i64 x654000_1, .int .i64 x654001_1, .string x654002_1] 61 (0, 0)) (by (with_reducible repeat (first | refine zN ?_ _ | refine zD ?_ | refine zA ?_ _)); exact BK653.out) hb); have n2_ := Aside0.mk (below_step (by repeat (first | (with_reducible first | exact HB.out | apply yA | apply yN | apply yD | refine below_set ?_ GE652.out | refine below_set ?_ GE653.out) | exact HB.out)) hb); clear BK652; clear BK653; clear HB; have BK652 := n0_; have BK653 := n1_; have HB := n2_; clear n0_ n1_ n2_; (try clear hb); (try clear hb2); (try clear hk); (try clear hi); have hcz53_0 : w52.cell? ⟨gb653, 0, none⟩ = some (.int .i64 x654000_1) := (blk_cell BK653.out 0).trans rfl; have hcz53_1 : w52.cell? ⟨gb653, 1, none⟩ = some (.int .i64 x654001_1) := (blk_cell BK653.out 1).trans rfl; have hcz53_2 : w52.cell? ⟨gb653, 2, none⟩ = some (.string x654002_1) := (blk_cell BK653.out 2).trans rfl; have hfz53_0 := blk_frozen BK653.out 0; have hfz53_1 := blk_frozen BK653.out 1; have hfz53_2 := blk_frozen BK653.out 2) | (go_at_call 117; (with_reducible refine (value_Written.calls x654000_1 x654001_1 x654002_1 t665 _ ?side1 A41.out).mono ?_); (case side1 => exact Laid.below HLD.out.base (by repeat (first | (with_reducible first | exact HB.out | apply yA | apply yN | apply yD | refine below_set ?_ GE652.out | refine below_set ?_ GE653.out) | exact HB.out))); rintro e w54 ⟨rfl, hb⟩; have n0_ := Aside0.mk (blk_below (g := gb652) (o := .cells #[.int .i64 x653000_1, .int .i64 x653001_1, .string x653002_1] 61 (0, 0)) (by (with_reducible repeat (first | refine zN ?_ _ | refine zD ?_ | refine zA ?_ _)); exact BK652.out) hb); have n1_ := Aside0.mk (blk_below (g := gb653) (o := .cells #[.int .i64 x654000_1, .int .i64 x654001_1, .string x654002_1] 61 (0, 0)) (by (with_reducible repeat (first | refine zN ?_ _ | refine zD ?_ | refine zA ?_ _)); exact BK653.out) hb); have n2_ := Aside0.mk (below_step (by repeat (first | (with_reducible first | exact HB.out | apply yA | apply yN | apply yD | refine below_set ?_ GE652.out | refine below_set ?_ GE653.out) | exact HB.out)) hb); clear BK652; clear BK653; clear HB; have BK652 := n0_; have BK653 := n1_; have HB := n2_; clear n0_ n1_ n2_; (try clear hb); (try clear hb2); (try clear hk); (try clear hi); have hcz55_0 : w54.cell? ⟨gb652, 0, none⟩ = some (.int .i64 x653000_1) := (blk_cell BK652.out 0).trans rfl; have hcz55_1 : w54.cell? ⟨gb652, 1, none⟩ = some (.int .i64 x653001_1) := (blk_cell BK652.out 1).trans rfl; have hcz55_2 : w54.cell? ⟨gb652, 2, none⟩ = some (.string x653002_1) := (blk_cell BK652.out 2).trans rfl; have hfz55_0 := blk_frozen BK652.out 0; have hfz55_1 := blk_frozen BK652.out 1; have hfz55_2 := blk_frozen BK652.out 2))
          refine bodyPost_ret (results_ct rfl _ _ gb652 61 #[.int .i64 0, .int .i64 0, .string (⟨#[]⟩ : ByteArray)] (0, 0) _ rfl (by (with_reducible repeat (first | refine zN ?_ _ | refine zD ?_ | refine zA ?_ _)); refine blk_put (cs := #[.int .i64 0, .int .i64 0, .string x653002_1]) ?_ 2 _ rfl; (with_reducible repeat (first | refine zN ?_ _ | refine zD ?_ | refine zA ?_ _)); refine blk_put (cs := #[.int .i64 0, .int .i64 x653001_1, .string x653002_1]) ?_ 1 _ rfl; (with_reducible repeat (first | refine zN ?_ _ | refine zD ?_ | refine zA ?_ _)); refine blk_put (cs := #[.int .i64 x653000_1, .int .i64 x653001_1, .string x653002_1]) ?_ 0 _ rfl; (with_reducible repeat (first | refine zN ?_ _ | refine zD ?_ | refine zA ?_ _)); exact BK652.out) Tryz.underlying61 rfl (by kernel_rfl)) rfl ?_
          exact ⟨by first | rfl | (simp [errW_none, errW_some] <;> rfl) | (simp [*, errW_none, errW_some] <;> rfl), by repeat (first | (with_reducible first | exact HB.out | apply yA | apply yN | apply yD | refine below_set ?_ GE652.out | refine below_set ?_ GE653.out) | exact HB.out)⟩
      · replace c40 := Bool.eq_false_iff.mpr c40
        subst c40
        have H1 : (some (0, 0, (⟨#[]⟩ : ByteArray), false)) = some (r1, r2, r3, r4) := by rw [if_neg (show ¬ (false = true) by decide)] at H; exact H
        clear H
        have H := H1
        clear H1
        simp only [Option.some.injEq, Prod.mk.injEq] at H
        obtain ⟨rfl, rfl, rfl, rfl⟩ := H
        have hnb56 := NB653_652.out
        have hnc56 := NB652_653.out
        have hcz57_0 : wc.cell? ⟨gb653, 0, none⟩ = some (.int .i64 x654000_1) := (blk_cell BK653.out 0).trans rfl
        have hcz57_1 : wc.cell? ⟨gb653, 1, none⟩ = some (.int .i64 x654001_1) := (blk_cell BK653.out 1).trans rfl
        have hcz57_2 : wc.cell? ⟨gb653, 2, none⟩ = some (.string x654002_1) := (blk_cell BK653.out 2).trans rfl
        have hfz57_0 := blk_frozen BK653.out 0
        have hfz57_1 := blk_frozen BK653.out 1
        have hfz57_2 := blk_frozen BK653.out 2
        go_wp2_with (first | ((with_reducible refine gate_callee (f := 89) rfl ?_); refine goesL_ (some 53) rfl rfl Tryz.func89 (by kernel_rfl) rfl #[.agg #[.int .i64 x654000_1, .int .i64 x654001_1, .string x654002_1]] rfl (by (try simp only [List.map_toArray, List.map_cons, List.map_nil]); first | done | rfl | (simp only [List.length_drop, List.length_take]; rfl)) ?_; (with_reducible refine (value_Is_s.calls x654000_1 x654001_1 x654002_1 false _ A39.out).mono ?_); rintro e w58 ⟨rfl, hb⟩; refine ⟨_, rfl, ?_⟩; have n0_ := Aside0.mk (blk_below (g := gb652) (o := .cells #[.int .i64 x653000_1, .int .i64 x653001_1, .string x653002_1] 61 (0, 0)) (by (with_reducible repeat (first | refine zN ?_ _ | refine zD ?_ | refine zA ?_ _)); exact BK652.out) hb); have n1_ := Aside0.mk (blk_below (g := gb653) (o := .cells #[.int .i64 x654000_1, .int .i64 x654001_1, .string x654002_1] 61 (0, 0)) (by (with_reducible repeat (first | refine zN ?_ _ | refine zD ?_ | refine zA ?_ _)); exact BK653.out) hb); have n2_ := Aside0.mk (below_step (by repeat (first | (with_reducible first | exact HB.out | apply yA | apply yN | apply yD | refine below_set ?_ GE652.out | refine below_set ?_ GE653.out) | exact HB.out)) hb); clear BK652; clear BK653; clear HB; have BK652 := n0_; have BK653 := n1_; have HB := n2_; clear n0_ n1_ n2_; (try clear hb); (try clear hb2); (try clear hk); (try clear hi); have hcz59_0 : w58.cell? ⟨gb652, 0, none⟩ = some (.int .i64 x653000_1) := (blk_cell BK652.out 0).trans rfl; have hcz59_1 : w58.cell? ⟨gb652, 1, none⟩ = some (.int .i64 x653001_1) := (blk_cell BK652.out 1).trans rfl; have hcz59_2 : w58.cell? ⟨gb652, 2, none⟩ = some (.string x653002_1) := (blk_cell BK652.out 2).trans rfl; have hfz59_0 := blk_frozen BK652.out 0; have hfz59_1 := blk_frozen BK652.out 1; have hfz59_2 := blk_frozen BK652.out 2))
        refine bodyPost_ret (results_ct rfl _ _ gb652 61 #[.int .i64 0, .int .i64 0, .string (⟨#[]⟩ : ByteArray)] (0, 0) _ rfl (by (with_reducible repeat (first | refine zN ?_ _ | refine zD ?_ | refine zA ?_ _)); refine blk_put (cs := #[.int .i64 0, .int .i64 0, .string x653002_1]) ?_ 2 _ rfl; (with_reducible repeat (first | refine zN ?_ _ | refine zD ?_ | refine zA ?_ _)); refine blk_put (cs := #[.int .i64 0, .int .i64 x653001_1, .string x653002_1]) ?_ 1 _ rfl; (with_reducible repeat (first | refine zN ?_ _ | refine zD ?_ | refine zA ?_ _)); refine blk_put (cs := #[.int .i64 x653000_1, .int .i64 x653001_1, .string x653002_1]) ?_ 0 _ rfl; (with_reducible repeat (first | refine zN ?_ _ | refine zD ?_ | refine zA ?_ _)); exact BK652.out) Tryz.underlying61 rfl (by kernel_rfl)) rfl ?_
        exact ⟨by first | rfl | (simp [errW_none, errW_some] <;> rfl) | (simp [*, errW_none, errW_some] <;> rfl), by repeat (first | (with_reducible first | exact HB.out | apply yA | apply yN | apply yD | refine below_set ?_ GE652.out | refine below_set ?_ GE653.out) | exact HB.out)⟩
theorem value_Read.j1_at (k : Nat) (x : ByteArray) (a b : Int) (c : ByteArray) (hb : inI64 b = true) :
    value_Read.j1 (k + 1) x a b c = some (if isB a b c = true ∧ writL a b c = x.data.toList then (a, b, c, true) else (0, 0, ⟨#[]⟩, false)) := by
  simp only [value_Read.j1, value_Is_s.f, Option.bind_some]
  by_cases h : isB a b c = true
  · rw [if_pos h]
    unfold value_Written.f okV
    rw [h, hb]
    simp only [Bool.and_self, if_true, Option.bind_some, ByteArray.toList_eq]
    unfold writ
    rw [ofL_data]
    by_cases h2 : writL a b c = x.data.toList
    · rw [if_pos h2, if_pos ⟨trivial, h2⟩]
    · rw [if_neg h2, if_neg (fun z => h2 z.2)]
  · rw [if_neg h, if_neg (fun z => h z.1)]
theorem value_Read.j0_at (s : ByteArray) (hs : s.size ≤ 20000) (hq : quoted s = true → 2 ≤ s.size) : value_Read.j0 3 s (quoted s) = some (match (if quoted s = true then some (3, 0, ofL (Lib.replaceAll (s.extract 1 (s.size - 1)).data.toList [39, 39] [39])) else match Lib.parseIntB 64 s.data.toList with | .ok v => some (1, v, (⟨#[]⟩ : ByteArray)) | _ => none : Option (Int × Int × ByteArray)) with | some (a, b, c) => if isB a b c = true ∧ writL a b c = s.data.toList then (a, b, c, true) else (0, 0, ⟨#[]⟩, false) | none => (0, 0, ⟨#[]⟩, false)) := by
  simp only [value_Read.j0]
  by_cases h : quoted s = true
  · have h2 := hq h
    rw [if_pos h, if_pos h, wrap_small (by omega) (by omega), if_pos (by omega), if_pos (by omega)]
    have e : (((s.size : Int) - 1) : Int).toNat = s.size - 1 := by omega
    rw [e]
    have hc := countB_le (s.extract 1 (s.size - 1)) ⟨#[39, 39]⟩ (by decide)
    have h1 : (⟨#[39]⟩ : ByteArray).size = 1 := rfl
    have h3 : (⟨#[39, 39]⟩ : ByteArray).size = 2 := rfl
    have hx : (s.extract 1 (s.size - 1)).size ≤ 20000 := by rw [ByteArray.size_extract]; omega
    unfold strings_ReplaceAll.f
    rw [if_pos ⟨by omega, by omega, by rw [h1]; omega⟩, show (⟨#[39]⟩ : ByteArray).data.toList = [39] from rfl, show (⟨#[39, 39]⟩ : ByteArray).data.toList = [39, 39] from rfl]
    simp only [Option.bind_some]
    rw [value_Read.j1_at _ _ _ _ _ (by decide)]
  · rw [if_neg h, if_neg h]
    unfold strconv_ParseInt.f
    rw [if_pos ⟨by omega, rfl, rfl⟩]
    cases hp : Lib.parseIntB 64 s.data.toList with
    | ok v =>
      simp only [Option.bind_some, Option.isNone_none, if_true]
      have hb := Lib.parseIntB_bounds hp
      have hB : ((2 ^ (64 - 1) : Nat) : Int) = 9223372036854775808 := rfl
      rw [hB] at hb
      rw [value_Read.j1_at _ _ _ _ _ (inI64_mk hb.1 (by omega))]
    | _ => simp
theorem quoted_at (s : ByteArray) (hs : s.size ≤ 20000) : (if (s.size : Int) > 1 then (if 0 < (s.size : Int) then (if (bt s 0) = 39 then (if 0 ≤ (wrap64 ((s.size : Int) - 1)) then (if (wrap64 ((s.size : Int) - 1)) < (s.size : Int) then (value_Read.j0 3 s ((bt s (wrap64 ((s.size : Int) - 1))) == 39)) else (none)) else (none)) else (value_Read.j0 3 s false)) else (none)) else (value_Read.j0 3 s false)) = value_Read.j0 3 s (quoted s) := by
  unfold quoted
  by_cases h : 1 < s.size
  · rw [if_pos (by omega), if_pos (by omega), wrap_small (by omega) (by omega)]
    by_cases h0 : bt s 0 = 39
    · rw [if_pos h0, if_pos (by omega), if_pos (by omega)]; simp [h, h0]
    · rw [if_neg h0, show (bt s 0 == 39) = false from beq_eq_false_iff_ne.2 h0]; simp
  · rw [if_neg (by omega)]; simp [h]
theorem value_Read.at (s : ByteArray) (hs : s.size ≤ 20000) : value_Read.f 3 s = some (readC s) := by
  unfold value_Read.f
  rw [quoted_at s hs]
  unfold readC cand
  simp only [ByteArray.toList_eq, value_True.f, value_False.f, Option.bind_some]
  by_cases h1 : s.data.toList = [110, 117, 108, 108]
  · simp only [if_pos h1]; exact value_Read.j1_at _ _ _ _ _ (by decide)
  simp only [if_neg h1]
  by_cases h2 : s.data.toList = [116, 114, 117, 101]
  · simp only [if_pos h2]; exact value_Read.j1_at _ _ _ _ _ (by decide)
  simp only [if_neg h2]
  by_cases h3 : s.data.toList = [102, 97, 108, 115, 101]
  · simp only [if_pos h3]; exact value_Read.j1_at _ _ _ _ _ (by decide)
  simp only [if_neg h3]
  refine value_Read.j0_at s hs (fun hq => ?_)
  unfold quoted at hq
  simp only [Bool.and_eq_true, decide_eq_true_eq] at hq
  omega
def value_Read_s.f (a0 : ByteArray) : Option (Int × Int × ByteArray × Bool) := if a0.size ≤ 20000 then some (readC a0) else none
theorem value_Read_s.calls (a0 : ByteArray) (r1 : Int) (r2 : Int) (r3 : ByteArray) (r4 : Bool) (w : World) (hL_ : LaidE w) (h : value_Read_s.f a0 = some (r1, r2, r3, r4)) :
  Calls Tryz.prog 152 #[.string a0] w fun e w' => e = .returned (.tuple #[.agg #[.int .i64 r1, .int .i64 r2, .string r3], .bool r4]) ∧ Below w.heap.size w w' := by
 unfold value_Read_s.f at h
 by_cases hs : a0.size ≤ 20000
 ·rw [if_pos hs] at h
  exact value_Read.calls 3 a0 r1 r2 r3 r4 w hL_ (by rw [value_Read.at a0 hs]; exact h)
 ·rw [if_neg hs] at h; cases h
end Go.Proofs.YtmhobbdedmjmnaaGreatDoor.Q
end
