/- The walk of GroupTells, by hand: it answers true whatever it is given. -/
import Derived.Test.YtnhpmmmkcemnmaaHl
import Derived.Test.YtnhpmmmkcemnmaaQh
namespace Go.Proofs.Ytnhpmmmkcemnmaa.Pc
open Go.RowKit Go.Proofs.YtnhpmmmkcemnmaaW.PrintWords Go.Proofs.YtnhpmmmkcemnmaaW.PrintLast Go.Proofs.YtnhpmmmkcemnmaaW.PrintMore
set_option linter.unusedVariables false
set_option linter.unusedSimpArgs false

theorem HB8.lent {w : World} {g : Nat} {l : List Int} (h : HB8 w g (l ++ [119, 119, 119])) (hm : l.length ≤ 1000) : Kd.C (Kd.int .u8) w (some ⟨g, 0, none⟩) l.length l := by
  have h2 := h.reads 0 l.length (by simp) (by omega)
  rw [List.drop_zero, List.take_left] at h2
  exact h2
theorem R_C {w : World} {base : Nat} {ok : Nat → Prop} {A : Option Addr} {n c : Nat} {xs : List Int} (h : Kd.R (Kd.int .u8) 5 w base ok (.slice A n c) xs) : Kd.C (Kd.int .u8) w A xs.length xs ∧ xs.length ≤ c := by
  obtain ⟨hn, hc, hC⟩ := Kd.R_reads' h
  subst hn
  exact ⟨hC, hc⟩

theorem readGroup_len (l : List Int) (n m : Int) : (readGroupZ l n m).1.length ≤ 1000 ∧ (readGroupZ l n m).2.1.length ≤ 1000 := by
  unfold readGroupZ
  by_cases h : spanZ n m
  · rw [if_pos h]
    unfold spanZ at h
    by_cases g : kindZ l = 71 ∧ sealZ 71 (group_Lay.body (cutZ (headZ l) n.toNat) (cutZ (tailZ l) m.toNat)) = l
    · rw [if_pos g]
      show (cutZ (headZ l) n.toNat).length ≤ 1000 ∧ (cutZ (tailZ l) m.toNat).length ≤ 1000
      rw [cutZ_len, cutZ_len]
      omega
    · rw [if_neg g]
      exact ⟨by simp, by simp⟩
  · rw [if_neg h]
    exact ⟨by simp, by simp⟩
set_option maxHeartbeats 3200000 in
set_option maxRecDepth 100000 in
theorem purlinlaw11_GroupTells.calls (A0 : Option Addr) (c0 : Nat) (l0 : List Int) (A1 : Option Addr) (c1 : Nat) (l1 : List Int) (A2 : Option Addr) (c2 : Nat) (l2 : List Int) (n m : Int) (w : World)
    (hr0 : Kd.C (Kd.int .u8) w A0 l0.length l0) (hc0 : l0.length ≤ c0) (by0 : By l0) (hr1 : Kd.C (Kd.int .u8) w A1 l1.length l1) (hc1 : l1.length ≤ c1) (by1 : By l1)
    (hr2 : Kd.C (Kd.int .u8) w A2 l2.length l2) (hc2 : l2.length ≤ c2) (by2 : By l2) :
    Calls Try.prog 15 #[.slice A0 l0.length c0, .slice A1 l1.length c1, .slice A2 l2.length c2, .int .i64 n, .int .i64 m] w fun e w' => e = .returned (.bool true) ∧ Below w.heap.size w w' := by
  have short : purlinlaw11_awake.f 700 = some true := purlinlaw11_awake.is 700 (by omega)
  by_cases m0 : l0.length ≤ 20
  · by_cases m1 : l1.length ≤ 20
    · by_cases m2 : l2.length ≤ 200
      · have d1 : decide (20 < (l0.length : Int)) = false := decide_eq_false (by omega)
        have d2 : decide (20 < l0.length) = false := decide_eq_false (by omega)
        have d3 : decide (20 < (l1.length : Int)) = false := decide_eq_false (by omega)
        have d4 : decide (20 < l1.length) = false := decide_eq_false (by omega)
        have d5 : decide (200 < (l2.length : Int)) = false := decide_eq_false (by omega)
        have d6 : decide (200 < l2.length) = false := decide_eq_false (by omega)
        obtain ⟨X, e, F1, hXl⟩ : ∃ X e, group_Lay.f 700 l0 l1 = some (X, e) ∧ X.length ≤ 128 := by
          by_cases h : sizesZ l0 l1
          · refine ⟨_, _, group_Lay.yes l0 l1 by0 by1 h 700 (by omega), ?_⟩
            rw [sealZ_len 71 _ (by rw [groupZ_len l0 l1 h.2.1 h.2.2.2]; omega)]
            omega
          · exact ⟨_, _, group_Lay.no l0 l1 h 700, by simp⟩
        have F2 := Aside0.mk ((ref11_Lay.is l0 l1 by0 by1 700 (by omega) (by omega) (by omega)).trans F1)
        replace F1 := Aside0.mk F1
        have hlen := readGroup_len l2 n m
        obtain ⟨U, V, f, hU⟩ : ∃ U V f, readGroupZ l2 n m = (U, V, f) := ⟨_, _, _, rfl⟩
        rw [hU] at hlen
        obtain ⟨hUl, hVl⟩ : U.length ≤ 1000 ∧ V.length ≤ 1000 := hlen
        have F3 := Aside0.mk ((group_Read.is l2 by2 n m 700 (by omega)).trans (congrArg some hU))
        have F4 := Aside0.mk ((ref11_Read.is l2 by2 n m 700 (by omega)).trans (congrArg some hU))
        have F5 := Aside0.mk (show purlinlaw0_SameBytes.f 1100 X X = some true by rw [same_is X X (by omega) 1100 (by omega), beq_self_eq_true])
        have F6 := Aside0.mk (show purlinlaw0_SameBytes.f 1100 U U = some true by rw [same_is U U (by omega) 1100 (by omega), beq_self_eq_true])
        have F7 := Aside0.mk (show purlinlaw0_SameBytes.f 1100 V V = some true by rw [same_is V V (by omega) 1100 (by omega), beq_self_eq_true])
        have F8 := Aside0.mk (over_is X (by omega) 1100 (by omega))
        have F9 := Aside0.mk (over_is U (by omega) 1100 (by omega))
        have F10 := Aside0.mk (over_is V (by omega) 1100 (by omega))
        have F11 := Aside0.mk (show purlinlaw0_SameBytes.f 400 l0 l0 = some true by rw [same_is l0 l0 (by omega) 400 (by omega), beq_self_eq_true])
        have F12 := Aside0.mk (show purlinlaw0_SameBytes.f 400 l1 l1 = some true by rw [same_is l1 l1 (by omega) 400 (by omega), beq_self_eq_true])
        have F13 := Aside0.mk (show purlinlaw0_SameBytes.f 400 l2 l2 = some true by rw [same_is l2 l2 (by omega) 400 (by omega), beq_self_eq_true])
        have F15 := Aside0.mk short
        have HR0 := Aside0.mk hr0
        have HR1 := Aside0.mk hr1
        have HR2 := Aside0.mk hr2
        have HC0 := Aside0.mk hc0
        have HC1 := Aside0.mk hc1
        have HC2 := Aside0.mk hc2
        have M0 := Aside0.mk m0
        have M1 := Aside0.mk m1
        have M2 := Aside0.mk m2
        clear short hU hXl hUl hVl by0 by1 by2 hr0 hr1 hr2 hc0 hc1 hc2 m0 m1 m2
        go_enter Try.func15, Try.ntmps15
        go_wp2_with fail
        refine (lend_calls A0 c0 l0 w HR0.out (by have := M0.out; omega)).mono ?_
        rintro e1 w1 ⟨g0, rfl, hg, hl, hB⟩
        have L0 := Aside0.mk hl
        have B1 := Aside0.mk hB
        clear hg hl hB
        go_wp2_with fail
        refine (lend_calls A1 c1 l1 w1 (Kd.C_below HR1.out B1.out) (by have := M1.out; omega)).mono ?_
        rintro e2 w2 ⟨g1, rfl, hg, hl, hB⟩
        have L1 := Aside0.mk hl
        have L0' := Aside0.mk (L0.out.below hB)
        have B2 := Aside0.mk (below_step B1.out hB)
        clear hg hl hB L0 B1
        go_wp2_with fail
        refine (lend_calls A2 c2 l2 w2 (Kd.C_below HR2.out B2.out) (by have := M2.out; omega)).mono ?_
        rintro e3 w3 ⟨g2, rfl, hg, hl, hB⟩
        have L2 := Aside0.mk hl
        have L0 := Aside0.mk (L0'.out.below hB)
        have L1' := Aside0.mk (L1.out.below hB)
        have B3 := Aside0.mk (below_step B2.out hB)
        clear hg hl hB L0' L1 B2
        go_wp2_with fail
        refine (group_Lay.calls 700 _ _ l0 _ _ l1 X e w3 (L0.out.lent (by have := M0.out; omega)) (by omega) (L1'.out.lent (by have := M1.out; omega)) (by omega) F1.out).mono ?_
        rintro e4 w4 ⟨vx, rfl, hx, hB⟩
        have HX4 := Aside0.mk (Kd.R_bound hx)
        have B4 := Aside0.mk hB
        clear hx hB
        go_wp2_with fail
        refine (purlinref11_Lay.calls 700 _ _ l0 _ _ l1 X e w4 (Kd.C_below HR0.out (below_step B3.out B4.out)) HC0.out (Kd.C_below HR1.out (below_step B3.out B4.out)) HC1.out F2.out).mono ?_
        rintro e5 w5 ⟨vy, rfl, hy, hB⟩
        have HY5 := Aside0.mk hy
        have HX5 := Aside0.mk (Kd.R_below HX4.out hB)
        have B5 := Aside0.mk (below_step B4.out hB)
        have S45 := Aside0.mk hB.size
        clear hy hB HX4
        go_wp2_with fail
        refine (group_Read.calls 700 _ _ l2 n m U V f w5 ((L2.out.below B5.out).lent (by have := M2.out; omega)) (by omega) F3.out).mono ?_
        rintro e6 w6 ⟨vu, vv, rfl, hu, hv, hB⟩
        have HU6 := Aside0.mk (Kd.R_bound hu)
        have HV6 := Aside0.mk (Kd.R_bound hv)
        have HX6 := Aside0.mk (Kd.R_below HX5.out hB)
        have HY6 := Aside0.mk (Kd.R_below HY5.out hB)
        have B6 := Aside0.mk (below_step B5.out hB)
        clear hu hv hB HX5 HY5
        go_wp2_with fail
        refine (purlinref11_Read.calls 700 _ _ l2 n m U V f w6 (Kd.C_below HR2.out (below_step B3.out B6.out)) HC2.out F4.out).mono ?_
        rintro e7 w7 ⟨vs, vt, rfl, hs, ht, hB⟩
        have HS7 := Aside0.mk hs
        have HT7 := Aside0.mk ht
        have HU7 := Aside0.mk (Kd.R_below HU6.out hB)
        have HV7 := Aside0.mk (Kd.R_below HV6.out hB)
        have HX7 := Aside0.mk (Kd.R_below HX6.out hB)
        have HY7 := Aside0.mk (Kd.R_below HY6.out hB)
        have B7 := Aside0.mk (below_step B6.out hB)
        clear hs ht hB HU6 HV6 HX6 HY6
        have NUV := Aside0.mk (fun k (h : (vv : Value).ownBlock = some k) (h2 : (vu : Value).ownBlock = some k) => (HU7.out.1 k h2).1 h.symm)
        obtain ⟨Ax, cx, rfl⟩ := Kd.R_slice HX7.out
        obtain ⟨Ay, cy, rfl⟩ := Kd.R_slice HY7.out
        obtain ⟨Au, cu, rfl⟩ := Kd.R_slice HU7.out
        obtain ⟨Av, cv, rfl⟩ := Kd.R_slice HV7.out
        obtain ⟨As, cs, rfl⟩ := Kd.R_slice HS7.out
        obtain ⟨At, ct, rfl⟩ := Kd.R_slice HT7.out
        go_wp2_with fail
        refine (purlinlaw0_SameBytes.calls 1100 _ _ X _ _ X true w7 (R_C HX7.out).1 (R_C HX7.out).2 (R_C HY7.out).1 (R_C HY7.out).2 F5.out).mono ?_
        rintro e8 w8 ⟨rfl, hD⟩
        have B8 := Aside0.mk (below_step B7.out hD.below)
        have HX8 := Aside0.mk (Kd.R_below HX7.out hD.below)
        have HU8 := Aside0.mk (Kd.R_below HU7.out hD.below)
        have HV8 := Aside0.mk (Kd.R_below HV7.out hD.below)
        have HS8 := Aside0.mk (Kd.R_below HS7.out hD.below)
        have HT8 := Aside0.mk (Kd.R_below HT7.out hD.below)
        clear hD HX7 HY7 HU7 HV7 HS7 HT7
        go_wp2_with fail
        refine (purlinlaw0_SameBytes.calls 1100 _ _ U _ _ U true w8 (R_C HU8.out).1 (R_C HU8.out).2 (R_C HS8.out).1 (R_C HS8.out).2 F6.out).mono ?_
        rintro e9 w9 ⟨rfl, hD⟩
        have B9 := Aside0.mk (below_step B8.out hD.below)
        have HX9 := Aside0.mk (Kd.R_below HX8.out hD.below)
        have HU9 := Aside0.mk (Kd.R_below HU8.out hD.below)
        have HV9 := Aside0.mk (Kd.R_below HV8.out hD.below)
        have HT9 := Aside0.mk (Kd.R_below HT8.out hD.below)
        clear hD HX8 HU8 HV8 HS8 HT8
        go_wp2_with fail
        refine (purlinlaw0_SameBytes.calls 1100 _ _ V _ _ V true w9 (R_C HV9.out).1 (R_C HV9.out).2 (R_C HT9.out).1 (R_C HT9.out).2 F7.out).mono ?_
        rintro e10 w10 ⟨rfl, hD⟩
        have B10 := Aside0.mk (below_step B9.out hD.below)
        have HX10 := Aside0.mk (Kd.R_below HX9.out hD.below)
        have HU10 := Aside0.mk (Kd.R_below HU9.out hD.below)
        have HV10 := Aside0.mk (Kd.R_below HV9.out hD.below)
        clear hD HX9 HU9 HV9 HT9
        go_wp2_with fail
        refine (purlinlaw0_OverBytes.calls 1100 _ _ X w3 w10 B10.out HX10.out F8.out).mono ?_
        rintro e11 w11 ⟨rfl, hB, hK⟩
        have B11 := Aside0.mk hB
        have HU11 := Aside0.mk (Kd.R_kept HU10.out hK (fun k h1 h2 => by have := S45.out; have := h1.2.1; have := h2.2.2.1; omega))
        have HV11 := Aside0.mk (Kd.R_kept HV10.out hK (fun k h1 h2 => by have := S45.out; have := h1.2.1; have := h2.2.2.1; omega))
        clear hB hK HX10 HU10 HV10
        go_wp2_with fail
        have HU11t := Aside0.mk (Kd.R_tight rfl (Kd.R_lower HU11.out B5.out.size))
        refine (purlinlaw0_OverBytes.calls 1100 _ _ U w3 w11 B11.out HU11t.out F9.out).mono ?_
        rintro e12 w12 ⟨rfl, hB, hK⟩
        have B12 := Aside0.mk hB
        have HV12 := Aside0.mk (Kd.R_kept (Kd.R_tight rfl HV11.out) hK (fun k h1 h2 => NUV.out k h1.symm h2.symm))
        clear hB hK HU11 HU11t HV11
        go_wp2_with fail
        refine (purlinlaw0_OverBytes.calls 1100 _ _ V w3 w12 B12.out (Kd.R_lower HV12.out B5.out.size) F10.out).mono ?_
        rintro e13 w13 ⟨rfl, hB, hK⟩
        have B13 := Aside0.mk hB
        clear hB hK HV12
        go_wp2_with fail
        refine (kept_calls g0 l0 _ _ w13 (L0.out.below B13.out) (Kd.C_below HR0.out (below_step B3.out B13.out)) HC0.out (by have := M0.out; omega) 400 F11.out).mono ?_
        rintro e14 w14 ⟨rfl, hD⟩
        have B14 := Aside0.mk (below_step B13.out hD)
        clear hD
        go_wp2_with fail
        refine (kept_calls g1 l1 _ _ w14 (L1'.out.below B14.out) (Kd.C_below HR1.out (below_step B3.out B14.out)) HC1.out (by have := M1.out; omega) 400 F12.out).mono ?_
        rintro e15 w15 ⟨rfl, hD⟩
        have B15 := Aside0.mk (below_step B14.out hD)
        clear hD
        go_wp2_with fail
        refine (kept_calls g2 l2 _ _ w15 (L2.out.below B15.out) (Kd.C_below HR2.out (below_step B3.out B15.out)) HC2.out (by have := M2.out; omega) 400 F13.out).mono ?_
        rintro e16 w16 ⟨rfl, hD⟩
        have B16 := Aside0.mk (below_step B15.out hD)
        clear hD
        go_wp2_with fail
        refine (purlinlaw11_awake.calls 700 true w16 F15.out).mono ?_
        rintro e17 w17 ⟨rfl, hD⟩
        have B17 := Aside0.mk (below_step B16.out hD)
        clear hD
        go_wp2
        go_ret
        exact ⟨rfl, below_step B3.out B17.out⟩
      · have d1 : decide (20 < (l0.length : Int)) = false := decide_eq_false (by omega)
        have d2 : decide (20 < l0.length) = false := decide_eq_false (by omega)
        have d3 : decide (20 < (l1.length : Int)) = false := decide_eq_false (by omega)
        have d4 : decide (20 < l1.length) = false := decide_eq_false (by omega)
        have d5 : decide (200 < (l2.length : Int)) = true := decide_eq_true (by omega)
        have d6 : decide (200 < l2.length) = true := decide_eq_true (by omega)
        have F15 := Aside0.mk short
        clear short hr0 hr1 hr2 hc0 hc1 hc2 m0 m1 m2 by0 by1 by2
        go_enter Try.func15, Try.ntmps15
        go_wp2_with fail
        refine (purlinlaw11_awake.calls 700 true w F15.out).mono ?_
        rintro e17 w17 ⟨rfl, hD⟩
        go_wp2
        go_ret
        exact ⟨rfl, hD⟩
    · have d1 : decide (20 < (l0.length : Int)) = false := decide_eq_false (by omega)
      have d2 : decide (20 < l0.length) = false := decide_eq_false (by omega)
      have d3 : decide (20 < (l1.length : Int)) = true := decide_eq_true (by omega)
      have d4 : decide (20 < l1.length) = true := decide_eq_true (by omega)
      have F15 := Aside0.mk short
      clear short hr0 hr1 hr2 hc0 hc1 hc2 m0 m1 by0 by1 by2
      go_enter Try.func15, Try.ntmps15
      go_wp2_with fail
      refine (purlinlaw11_awake.calls 700 true w F15.out).mono ?_
      rintro e17 w17 ⟨rfl, hD⟩
      go_wp2
      go_ret
      exact ⟨rfl, hD⟩
  · have d1 : decide (20 < (l0.length : Int)) = true := decide_eq_true (by omega)
    have d2 : decide (20 < l0.length) = true := decide_eq_true (by omega)
    have F15 := Aside0.mk short
    clear short hr0 hr1 hr2 hc0 hc1 hc2 m0 by0 by1 by2
    go_enter Try.func15, Try.ntmps15
    go_wp2_with fail
    refine (purlinlaw11_awake.calls 700 true w F15.out).mono ?_
    rintro e17 w17 ⟨rfl, hD⟩
    go_wp2
    go_ret
    exact ⟨rfl, hD⟩
theorem purlinlaw11_GroupTells.walk (a0 : Option Addr) (len0 cap0 : Nat) (z0 : List Int) (a1 : Option Addr) (len1 cap1 : Nat) (z1 : List Int) (a2 : Option Addr) (len2 cap2 : Nat) (z2 : List Int) (a3 a4 : Int) (w : World)
    (w0 : (a0 = none ∧ len0 = 0 ∧ cap0 = 0 ∧ z0 = []) ∨ ∃ x, a0 = some x ∧ len0 ≤ cap0 ∧ cap0 ≤ maxLen ∧ z0.length = cap0 ∧ (∀ i, i < z0.length → w.cell? (x.add i) = some (.int .u8 (z0.getD i 0))) ∧ ∀ n ∈ z0, (Lit.int .u8 n).wf = true) (y0 : len0 * 1 ≤ 140737488351232)
    (w1 : (a1 = none ∧ len1 = 0 ∧ cap1 = 0 ∧ z1 = []) ∨ ∃ x, a1 = some x ∧ len1 ≤ cap1 ∧ cap1 ≤ maxLen ∧ z1.length = cap1 ∧ (∀ i, i < z1.length → w.cell? (x.add i) = some (.int .u8 (z1.getD i 0))) ∧ ∀ n ∈ z1, (Lit.int .u8 n).wf = true) (y1 : len1 * 1 ≤ 140737488351232)
    (w2 : (a2 = none ∧ len2 = 0 ∧ cap2 = 0 ∧ z2 = []) ∨ ∃ x, a2 = some x ∧ len2 ≤ cap2 ∧ cap2 ≤ maxLen ∧ z2.length = cap2 ∧ (∀ i, i < z2.length → w.cell? (x.add i) = some (.int .u8 (z2.getD i 0))) ∧ ∀ n ∈ z2, (Lit.int .u8 n).wf = true) (y2 : len2 * 1 ≤ 140737488351232) (w3 : (Lit.int .i64 a3).wf = true) (w4 : (Lit.int .i64 a4).wf = true) :
    Calls Try.prog 15 #[.slice a0 len0 cap0, .slice a1 len1 cap1, .slice a2 len2 cap2, .int .i64 a3, .int .i64 a4] w fun e w' => e = .returned (.bool true) ∧ Below w.heap.size w w' := by
  obtain ⟨l0, rfl, hr0, hm0, hw0, hc0⟩ := ReadsInt.ofRowC w0
  obtain ⟨l1, rfl, hr1, hm1, hw1, hc1⟩ := ReadsInt.ofRowC w1
  obtain ⟨l2, rfl, hr2, hm2, hw2, hc2⟩ := ReadsInt.ofRowC w2
  exact purlinlaw11_GroupTells.calls _ _ l0 _ _ l1 _ _ l2 a3 a4 w (Kd.C_of_reads (d := (0 : Int)) (h1 := fun _ => rfl) hr0) hc0 (By.of_wf hw0) (Kd.C_of_reads (d := (0 : Int)) (h1 := fun _ => rfl) hr1) hc1 (By.of_wf hw1) (Kd.C_of_reads (d := (0 : Int)) (h1 := fun _ => rfl) hr2) hc2 (By.of_wf hw2)
end Go.Proofs.Ytnhpmmmkcemnmaa.Pc
