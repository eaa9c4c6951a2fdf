/- The walk of SealTells, by hand: it answers true whatever it is given. -/
import Derived.Test.YtnhpmmmkcemnmaaHl
import Derived.Test.YtnhpmmmkcemnmaaQr
import Derived.Test.YtnhpmmmkcemnmaaPcx3
namespace Go.Proofs.Ytnhpmmmkcemnmaa.Pc
open Go.RowKit Go.Proofs.YtnhpmmmkcemnmaaW.PrintWords Go.Proofs.YtnhpmmmkcemnmaaW.PrintLast Go.Proofs.YtnhpmmmkcemnmaaW.PrintMore
set_option linter.unusedVariables false
set_option linter.unusedSimpArgs false

/-- What is lent, as a slice that is read. -/
theorem HB8.lent {w : World} {g : Nat} {l : List Int} (h : HB8 w g (l ++ [119, 119, 119])) (hm : l.length ≤ 1000) : Kd.C (Kd.int .u8) w (some ⟨g, 0, none⟩) l.length l := by
  have h2 := h.reads 0 l.length (by simp) (by omega)
  rw [List.drop_zero, List.take_left] at h2
  exact h2
theorem R_C {w : World} {base : Nat} {ok : Nat → Prop} {A : Option Addr} {n c : Nat} {xs : List Int} (h : Kd.R (Kd.int .u8) 5 w base ok (.slice A n c) xs) : Kd.C (Kd.int .u8) w A xs.length xs ∧ xs.length ≤ c := by
  obtain ⟨hn, hc, hC⟩ := Kd.R_reads' h
  subst hn
  exact ⟨hC, hc⟩

set_option maxHeartbeats 3200000 in
set_option maxRecDepth 100000 in
theorem purlinlaw2_SealTells.calls (a0 : Int) (A1 : Option Addr) (c1 : Nat) (l1 : List Int) (A2 : Option Addr) (c2 : Nat) (l2 : List Int) (w : World) (b0 : 0 ≤ a0 ∧ a0 < 256) (hr1 : Kd.C (Kd.int .u8) w A1 l1.length l1) (hc1 : l1.length ≤ c1) (by1 : By l1)
    (hr2 : Kd.C (Kd.int .u8) w A2 l2.length l2) (hc2 : l2.length ≤ c2) (by2 : By l2) :
    Calls Try.prog 3 #[.int .u8 a0, .slice A1 l1.length c1, .slice A2 l2.length c2] w fun e w' => e = .returned (.bool true) ∧ Below w.heap.size w w' := by
  have short : purlinlaw2_awake.f 400 = some true := purlinlaw2_awake.is 400 (by omega)
  by_cases m1 : l1.length ≤ 300
  · by_cases m2 : l2.length ≤ 300
    · have d1 : decide (300 < (l1.length : Int)) = false := decide_eq_false (by omega)
      have d2 : decide (300 < l1.length) = false := decide_eq_false (by omega)
      have d3 : decide (300 < (l2.length : Int)) = false := decide_eq_false (by omega)
      have d4 : decide (300 < l2.length) = false := decide_eq_false (by omega)
      obtain ⟨X, e, hX⟩ : ∃ X e, (if a0 = 0 ∨ 123 < l1.length then (([] : List Int), (2 : Int)) else (sealZ a0 l1, 0)) = (X, e) := ⟨_, _, rfl⟩
      have F1 := Aside0.mk ((seal_Seal.is a0 l1 b0.1 b0.2 by1 400 (by omega)).trans (congrArg some hX))
      have F2 := Aside0.mk ((ref2_Seal.is a0 l1 b0.1 b0.2 by1 400 (by omega)).trans (congrArg some hX))
      obtain ⟨U, f, hU⟩ : ∃ U f, (if a0 ≠ 0 ∧ kindZ l2 = a0 then ((l2.take 124).drop 1, (0 : Int)) else ([], 3)) = (U, f) := ⟨_, _, rfl⟩
      have F3 := Aside0.mk ((seal_Open.is a0 l2 by2 400 (by omega)).trans (congrArg some hU))
      have F4 := Aside0.mk ((ref2_Open.is a0 l2 by2 400 (by omega)).trans (congrArg some hU))
      have hXl : X.length ≤ 128 := by
        have := congrArg (fun p => p.1.length) hX
        simp only at this
        rw [← this]
        split
        · simp
        · rename_i h
          rw [sealZ_len a0 l1 (by omega)]
          omega
      have hUl : U.length ≤ 123 := by
        have := congrArg (fun p => p.1.length) hU
        simp only at this
        rw [← this]
        split
        · simp
          omega
        · simp
      have F5 := Aside0.mk (show purlinlaw0_SameBytes.f 400 X X = some true by rw [same_is X X (by omega) 400 (by omega), beq_self_eq_true])
      have F6 := Aside0.mk (show purlinlaw0_SameBytes.f 400 U U = some true by rw [same_is U U (by omega) 400 (by omega), beq_self_eq_true])
      have F7 := Aside0.mk (seal_Kind.is l2 by2 400 (by omega))
      have F8 := Aside0.mk (ref2_Kind.is l2 by2 400 (by omega))
      have F9 := Aside0.mk (seal_Sum.is l2 by2 (by omega) 400 (by omega))
      have F10 := Aside0.mk (ref2_Sum.is l2 by2 (by omega) 400 (by omega))
      have F11 := Aside0.mk (over_is X (by omega) 400 (by omega))
      have F12 := Aside0.mk (over_is U (by omega) 400 (by omega))
      have F13 := Aside0.mk (show purlinlaw0_SameBytes.f 400 l1 l1 = some true by rw [same_is l1 l1 (by omega) 400 (by omega), beq_self_eq_true])
      have F14 := Aside0.mk (show purlinlaw0_SameBytes.f 400 l2 l2 = some true by rw [same_is l2 l2 (by omega) 400 (by omega), beq_self_eq_true])
      have F15 := Aside0.mk short
      have HR1 := Aside0.mk hr1
      have HR2 := Aside0.mk hr2
      have HC1 := Aside0.mk hc1
      have HC2 := Aside0.mk hc2
      have M1 := Aside0.mk m1
      have M2 := Aside0.mk m2
      clear short hX hU hXl hUl by1 by2 hr1 hr2 hc1 hc2 m1 m2 b0
      go_enter Try.func3, Try.ntmps3
      go_wp2_with fail
      refine (lend_calls A1 c1 l1 w HR1.out (by have := M1.out; omega)).mono ?_
      rintro e1 w1 ⟨g1, rfl, hg1, hb1, hB1⟩
      have G1 := Aside0.mk hg1
      have L1 := Aside0.mk hb1
      have B1 := Aside0.mk hB1
      clear hg1 hb1 hB1
      go_wp2_with fail
      refine (lend_calls A2 c2 l2 w1 (Kd.C_below HR2.out B1.out) (by have := M2.out; omega)).mono ?_
      rintro e2 w2 ⟨g2, rfl, hg2, hb2, hB2⟩
      have G2 := Aside0.mk hg2
      have L2 := Aside0.mk hb2
      have L1' := Aside0.mk (L1.out.below hB2)
      have B2 := Aside0.mk (below_step B1.out hB2)
      clear hg2 hb2 hB2 L1 B1
      go_wp2_with fail
      refine (seal_Seal.calls 400 a0 _ _ l1 X e w2 (L1'.out.lent (by have := M1.out; omega)) (by omega) F1.out).mono ?_
      rintro e3 w3 ⟨vx, rfl, hx, hB3⟩
      have HX := Aside0.mk (Kd.R_bound hx)
      have B3 := Aside0.mk hB3
      clear hx hB3
      go_wp2_with fail
      refine (purlinref2_Seal.calls 400 a0 _ _ l1 X e w3 (Kd.C_below HR1.out (below_step B2.out B3.out)) HC1.out F2.out).mono ?_
      rintro e4 w4 ⟨vy, rfl, hy, hB4⟩
      have HY := Aside0.mk hy
      have B4 := Aside0.mk (below_step B3.out hB4)
      have S34 := Aside0.mk hB4.size
      have HX4 := Aside0.mk (Kd.R_below HX.out hB4)
      clear hy hB4 HX
      go_wp2_with fail
      refine (seal_Open.calls 400 a0 _ _ l2 U f w4 ((L2.out.below B4.out).lent (by have := M2.out; omega)) (by omega) F3.out).mono ?_
      rintro e5 w5 ⟨vu, rfl, hu, hB5⟩
      have HU := Aside0.mk (Kd.R_bound hu)
      have B5 := Aside0.mk (below_step B4.out hB5)
      have HX5 := Aside0.mk (Kd.R_below HX4.out hB5)
      have HY5 := Aside0.mk (Kd.R_below HY.out hB5)
      clear hu hB5 HX4 HY
      go_wp2_with fail
      refine (purlinref2_Open.calls 400 a0 _ _ l2 U f w5 (Kd.C_below HR2.out (below_step B2.out B5.out)) HC2.out F4.out).mono ?_
      rintro e6 w6 ⟨vv, rfl, hv, hB6⟩
      obtain ⟨Ax, cx, rfl⟩ := Kd.R_slice HX5.out
      obtain ⟨Ay, cy, rfl⟩ := Kd.R_slice HY5.out
      obtain ⟨Au, cu, rfl⟩ := Kd.R_slice HU.out
      obtain ⟨Av, cv, rfl⟩ := Kd.R_slice hv
      have HV6 := Aside0.mk hv
      have B6 := Aside0.mk (below_step B5.out hB6)
      have HX6 := Aside0.mk (Kd.R_below HX5.out hB6)
      have HY6 := Aside0.mk (Kd.R_below HY5.out hB6)
      have HU6 := Aside0.mk (Kd.R_below HU.out hB6)
      clear hv hB6 HX5 HY5 HU
      go_wp2_with fail
      refine (purlinlaw0_SameBytes.calls 400 _ _ X _ _ X true w6 (R_C HX6.out).1 (R_C HX6.out).2 (R_C HY6.out).1 (R_C HY6.out).2 F5.out).mono ?_
      rintro e7 w7 ⟨rfl, hD⟩
      have B7 := Aside0.mk (below_step B6.out hD.below)
      have HX7 := Aside0.mk (Kd.R_below HX6.out hD.below)
      have HU7 := Aside0.mk (Kd.R_below HU6.out hD.below)
      have HV7 := Aside0.mk (Kd.R_below HV6.out hD.below)
      clear hD HX6 HY6 HU6 HV6
      go_wp2_with fail
      refine (purlinlaw0_SameBytes.calls 400 _ _ U _ _ U true w7 (R_C HU7.out).1 (R_C HU7.out).2 (R_C HV7.out).1 (R_C HV7.out).2 F6.out).mono ?_
      rintro e8 w8 ⟨rfl, hD⟩
      have B8 := Aside0.mk (below_step B7.out hD.below)
      have HX8 := Aside0.mk (Kd.R_below HX7.out hD.below)
      have HU8 := Aside0.mk (Kd.R_below HU7.out hD.below)
      clear hD HX7 HU7 HV7
      go_wp2_with fail
      refine (seal_Kind.calls 400 _ _ l2 _ w8 ((L2.out.below B8.out).lent (by have := M2.out; omega)) (by omega) F7.out).mono ?_
      rintro e9 w9 ⟨rfl, hD⟩
      have B9 := Aside0.mk (below_step B8.out hD)
      have HX9 := Aside0.mk (Kd.R_below HX8.out hD)
      have HU9 := Aside0.mk (Kd.R_below HU8.out hD)
      clear hD HX8 HU8
      go_wp2_with fail
      refine (purlinref2_Kind.calls 400 _ _ l2 _ w9 (Kd.C_below HR2.out (below_step B2.out B9.out)) HC2.out F8.out).mono ?_
      rintro e10 w10 ⟨rfl, hD⟩
      have B10 := Aside0.mk (below_step B9.out hD)
      have HX10 := Aside0.mk (Kd.R_below HX9.out hD)
      have HU10 := Aside0.mk (Kd.R_below HU9.out hD)
      clear hD HX9 HU9
      go_wp2_with fail
      refine (seal_Sum.calls 400 _ _ l2 _ w10 ((L2.out.below B10.out).lent (by have := M2.out; omega)) (by omega) F9.out).mono ?_
      rintro e11 w11 ⟨rfl, hD⟩
      have B11 := Aside0.mk (below_step B10.out hD.below)
      have HX11 := Aside0.mk (Kd.R_below HX10.out hD.below)
      have HU11 := Aside0.mk (Kd.R_below HU10.out hD.below)
      clear hD HX10 HU10
      go_wp2_with fail
      refine (purlinref2_Sum.calls 400 _ _ l2 _ w11 (Kd.C_below HR2.out (below_step B2.out B11.out)) HC2.out F10.out).mono ?_
      rintro e12 w12 ⟨rfl, hD⟩
      have B12 := Aside0.mk (below_step B11.out hD.below)
      have HX12 := Aside0.mk (Kd.R_below HX11.out hD.below)
      have HU12 := Aside0.mk (Kd.R_below HU11.out hD.below)
      clear hD HX11 HU11
      go_wp2_with fail
      refine (purlinlaw0_OverBytes.calls 400 _ _ X w2 w12 B12.out HX12.out F11.out).mono ?_
      rintro e13 w13 ⟨rfl, hB, hK⟩
      have B13 := Aside0.mk hB
      have HU13 := Aside0.mk (Kd.R_kept HU12.out hK (fun k h1 h2 => by have := S34.out; have := h1.2.1; have := h2.2.2.1; omega))
      clear hB hK HX12 HU12
      go_wp2_with fail
      refine (purlinlaw0_OverBytes.calls 400 _ _ U w2 w13 B13.out (Kd.R_lower HU13.out B4.out.size) F12.out).mono ?_
      rintro e14 w14 ⟨rfl, hB, hK⟩
      have B14 := Aside0.mk hB
      clear hB hK HU13
      go_wp2_with fail
      refine (kept_calls g1 l1 _ _ w14 (L1'.out.below B14.out) (Kd.C_below HR1.out (below_step B2.out B14.out)) HC1.out (by have := M1.out; omega) 400 F13.out).mono ?_
      rintro e15 w15 ⟨rfl, hD⟩
      have B15 := Aside0.mk (below_step B14.out hD)
      clear hD
      go_wp2_with fail
      refine (kept_calls g2 l2 _ _ w15 (L2.out.below B15.out) (Kd.C_below HR2.out (below_step B2.out B15.out)) HC2.out (by have := M2.out; omega) 400 F14.out).mono ?_
      rintro e16 w16 ⟨rfl, hD⟩
      have B16 := Aside0.mk (below_step B15.out hD)
      clear hD
      go_wp2_with fail
      refine (purlinlaw2_awake.calls 400 true w16 F15.out).mono ?_
      rintro e17 w17 ⟨rfl, hD⟩
      have B17 := Aside0.mk (below_step B16.out hD)
      clear hD
      go_wp2
      go_ret
      exact ⟨rfl, below_step B2.out B17.out⟩
    · have d1 : decide (300 < (l1.length : Int)) = false := decide_eq_false (by omega)
      have d2 : decide (300 < l1.length) = false := decide_eq_false (by omega)
      have d3 : decide (300 < (l2.length : Int)) = true := decide_eq_true (by omega)
      have d4 : decide (300 < l2.length) = true := decide_eq_true (by omega)
      have F15 := Aside0.mk short
      clear short hr1 hr2 hc1 hc2 m1 m2 by1 by2
      go_enter Try.func3, Try.ntmps3
      go_wp2_with fail
      refine (purlinlaw2_awake.calls 400 true w F15.out).mono ?_
      rintro e17 w17 ⟨rfl, hD⟩
      go_wp2
      go_ret
      exact ⟨rfl, hD⟩
  · have d1 : decide (300 < (l1.length : Int)) = true := decide_eq_true (by omega)
    have d2 : decide (300 < l1.length) = true := decide_eq_true (by omega)
    have F15 := Aside0.mk short
    clear short hr1 hr2 hc1 hc2 m1 by1 by2
    go_enter Try.func3, Try.ntmps3
    go_wp2_with fail
    refine (purlinlaw2_awake.calls 400 true w F15.out).mono ?_
    rintro e17 w17 ⟨rfl, hD⟩
    go_wp2
    go_ret
    exact ⟨rfl, hD⟩
theorem purlinlaw2_SealTells.walk (a0 : Int) (a1 : Option Addr) (len1 cap1 : Nat) (z1 : List Int) (a2 : Option Addr) (len2 cap2 : Nat) (z2 : List Int) (w : World) (w0 : (Lit.int .u8 a0).wf = true)
    (w1 : (a1 = none ∧ len1 = 0 ∧ cap1 = 0 ∧ z1 = []) ∨ ∃ x, a1 = some x ∧ len1 ≤ cap1 ∧ cap1 ≤ maxLen ∧ z1.length = cap1 ∧ (∀ i, i < z1.length → w.cell? (x.add i) = some (.int .u8 (z1.getD i 0))) ∧ ∀ n ∈ z1, (Lit.int .u8 n).wf = true) (y1 : len1 * 1 ≤ 140737488351232)
    (w2 : (a2 = none ∧ len2 = 0 ∧ cap2 = 0 ∧ z2 = []) ∨ ∃ x, a2 = some x ∧ len2 ≤ cap2 ∧ cap2 ≤ maxLen ∧ z2.length = cap2 ∧ (∀ i, i < z2.length → w.cell? (x.add i) = some (.int .u8 (z2.getD i 0))) ∧ ∀ n ∈ z2, (Lit.int .u8 n).wf = true) (y2 : len2 * 1 ≤ 140737488351232) :
    Calls Try.prog 3 #[.int .u8 a0, .slice a1 len1 cap1, .slice a2 len2 cap2] w fun e w' => e = .returned (.bool true) ∧ Below w.heap.size w w' := by
  obtain ⟨l1, rfl, hr1, hm1, hw1, hc1⟩ := ReadsInt.ofRowC w1
  obtain ⟨l2, rfl, hr2, hm2, hw2, hc2⟩ := ReadsInt.ofRowC w2
  have b0 : 0 ≤ a0 ∧ a0 < 256 := by
    have h := By.of_wf (l := [a0]) (by intro x hx; simp at hx; rw [hx]; exact w0) a0 (by simp)
    exact h
  exact purlinlaw2_SealTells.calls a0 _ _ l1 _ _ l2 w b0 (Kd.C_of_reads (d := (0 : Int)) (h1 := fun _ => rfl) hr1) hc1 (By.of_wf hw1) (Kd.C_of_reads (d := (0 : Int)) (h1 := fun _ => rfl) hr2) hc2 (By.of_wf hw2)
end Go.Proofs.Ytnhpmmmkcemnmaa.Pc
