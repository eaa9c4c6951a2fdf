/- The walk of SealApart, by hand: it answers true whatever it is given. -/
import Derived.Test.YtnhpmmmkcemnmaaHa
import Derived.Test.YtnhpmmmkcemnmaaQb
import Derived.Test.YtnhpmmmkcemnmaaPcx3
namespace Go.Proofs.Ytnhpmmmkcemnmaa.Pc
open Go.RowKit Go.Proofs.YtnhpmmmkcemnmaaW.PrintWords Go.Proofs.YtnhpmmmkcemnmaaW.PrintLast Go.Proofs.YtnhpmmmkcemnmaaW.PrintMore
set_option linter.unusedVariables false
set_option linter.unusedSimpArgs false

set_option maxHeartbeats 3200000 in
set_option maxRecDepth 100000 in
theorem purlinlaw2_SealApart.calls (j k : Int) (A2 : Option Addr) (c2 : Nat) (l2 : List Int) (A3 : Option Addr) (c3 : Nat) (l3 : List Int) (w : World) (bj : 0 ≤ j ∧ j < 256) (bk : 0 ≤ k ∧ k < 256)
    (hr2 : Kd.C (Kd.int .u8) w A2 l2.length l2) (hc2 : l2.length ≤ c2) (by2 : By l2) (hr3 : Kd.C (Kd.int .u8) w A3 l3.length l3) (hc3 : l3.length ≤ c3) (by3 : By l3) :
    Calls Try.prog 5 #[.int .u8 j, .int .u8 k, .slice A2 l2.length c2, .slice A3 l3.length c3] w fun e w' => e = .returned (.bool true) ∧ Below w.heap.size w w' := by
  have short : purlinlaw2_awake.f 400 = some true := purlinlaw2_awake.is 400 (by omega)
  have HB0 := Aside0.mk (Below.refl w.heap.size w)
  by_cases m2 : l2.length ≤ 123
  · by_cases m3 : l3.length ≤ 123
    · by_cases j0 : j = 0
      · have d1 : decide (123 < (l2.length : Int)) = false := decide_eq_false (by omega)
        have d2 : decide (123 < l2.length) = false := decide_eq_false (by omega)
        have d3 : decide (123 < (l3.length : Int)) = false := decide_eq_false (by omega)
        have d4 : decide (123 < l3.length) = false := decide_eq_false (by omega)
        have d5 : (j == 0) = true := beq_iff_eq.mpr j0
        have F15 := Aside0.mk short
        clear short hr2 hr3 hc2 hc3 by2 by3 bj bk
        go_enter Try.func5, Try.ntmps5
        go_wp2_with fail
        refine (purlinlaw2_awake.calls 400 true w F15.out).mono ?_
        rintro e17 w17 ⟨rfl, hD⟩
        go_wp2
        go_ret
        exact ⟨rfl, hD⟩
      · by_cases k0 : k = 0
        · have d1 : decide (123 < (l2.length : Int)) = false := decide_eq_false (by omega)
          have d2 : decide (123 < l2.length) = false := decide_eq_false (by omega)
          have d3 : decide (123 < (l3.length : Int)) = false := decide_eq_false (by omega)
          have d4 : decide (123 < l3.length) = false := decide_eq_false (by omega)
          have d5 : (j == 0) = false := beq_eq_false_iff_ne.mpr j0
          have d6 : (k == 0) = true := beq_iff_eq.mpr k0
          have F15 := Aside0.mk short
          clear short hr2 hr3 hc2 hc3 by2 by3 bj bk
          go_enter Try.func5, Try.ntmps5
          go_wp2_with fail
          refine (purlinlaw2_awake.calls 400 true w F15.out).mono ?_
          rintro e17 w17 ⟨rfl, hD⟩
          go_wp2
          go_ret
          exact ⟨rfl, hD⟩
        · have d1 : decide (123 < (l2.length : Int)) = false := decide_eq_false (by omega)
          have d2 : decide (123 < l2.length) = false := decide_eq_false (by omega)
          have d3 : decide (123 < (l3.length : Int)) = false := decide_eq_false (by omega)
          have d4 : decide (123 < l3.length) = false := decide_eq_false (by omega)
          have d5 : (j == 0) = false := beq_eq_false_iff_ne.mpr j0
          have d6 : (k == 0) = false := beq_eq_false_iff_ne.mpr k0
          have F1 := Aside0.mk (seal_Seal.yes j l2 j0 bj.1 bj.2 by2 m2 400 (by omega))
          have F2 := Aside0.mk (seal_Seal.yes k l3 k0 bk.1 bk.2 by3 m3 400 (by omega))
          have hs := sealZ_by bj.1 bj.2 by2
          have F3 := Aside0.mk (seal_Open.is k (sealZ j l2) hs 400 (by omega))
          have HR2 := Aside0.mk hr2
          have HR3 := Aside0.mk hr3
          have HC2 := Aside0.mk hc2
          have HC3 := Aside0.mk hc3
          have M2 := Aside0.mk m2
          have M3 := Aside0.mk m3
          have F15 := Aside0.mk short
          clear hr2 hr3 hc2 hc3 m2 m3 short by2 by3 hs
          go_enter Try.func5, Try.ntmps5
          go_wp2_with fail
          refine (seal_Seal.calls 400 j _ _ l2 (sealZ j l2) 0 w HR2.out HC2.out F1.out).mono ?_
          rintro e1 w1 ⟨vx, rfl, hx, hB1⟩
          have HX1 := Aside0.mk (Kd.R_bound hx)
          have B1 := Aside0.mk hB1
          clear hx hB1
          go_wp2_with fail
          refine (seal_Seal.calls 400 k _ _ l3 (sealZ k l3) 0 w1 (Kd.C_below HR3.out B1.out) HC3.out F2.out).mono ?_
          rintro e2 w2 ⟨vy, rfl, hy, hB2⟩
          have HY2 := Aside0.mk (Kd.R_bound hy)
          have HX2 := Aside0.mk (Kd.R_below HX1.out hB2)
          have B2 := Aside0.mk (below_step B1.out hB2)
          have S12 := Aside0.mk hB2.size
          clear hy hB2 HX1
          obtain ⟨Ax, cx, rfl⟩ := Kd.R_slice HX2.out
          obtain ⟨Ay, cy, rfl⟩ := Kd.R_slice HY2.out
          have SW2 := Aside0.mk B2.out.size
          obtain ⟨Z, hZ⟩ : ∃ Z : List Int, Z = List.replicate 123 0 := ⟨_, rfl⟩
          have HZ := Aside0.mk hZ
          have HZL := Aside0.mk (show Z.length = 123 by rw [hZ]; simp)
          have kk : kindZ (sealZ j l2) = j := kindZ_sealZ j l2 j0 M2.out
          have inj := sealZ_inj j k l2 l3 M2.out M3.out
          have sl := sealZ_len j l2 M2.out
          obtain ⟨P, hP⟩ : ∃ P : List Int, P = bodyZ l2 := ⟨_, rfl⟩
          obtain ⟨R, hR⟩ : ∃ R : List Int, R = bodyZ l3 := ⟨_, rfl⟩
          have HP := Aside0.mk (show Z.take 0 ++ (l2.take (min l2.length 123) ++ Z.drop (0 + min l2.length 123)) = P by
            have := M2.out
            rw [hP, hZ, show min l2.length 123 = l2.length by omega, List.take_of_length_le (Nat.le_refl _), List.take_zero, List.nil_append, Nat.zero_add, List.drop_replicate]
            rfl)
          have HR := Aside0.mk (show Z.take 0 ++ (l3.take (min l3.length 123) ++ Z.drop (0 + min l3.length 123)) = R by
            have := M3.out
            rw [hR, hZ, show min l3.length 123 = l3.length by omega, List.take_of_length_le (Nat.le_refl _), List.take_zero, List.nil_append, Nat.zero_add, List.drop_replicate]
            rfl)
          have HPL := Aside0.mk (show P.length = 123 by rw [hP]; exact bodyZ_len l2 M2.out)
          have HRL := Aside0.mk (show R.length = 123 by rw [hR]; exact bodyZ_len l3 M3.out)
          rw [← hP, ← hR] at inj
          have F5 := Aside0.mk (same_is (sealZ j l2) (sealZ k l3) (by omega) 400 (by omega))
          have hi5 := info_parts info5
          obtain ⟨i0, hi0, _, _, _⟩ := hi5
          have F3' := F3.out
          rw [kk] at F3'
          generalize sealZ j l2 = X at *
          generalize sealZ k l3 = Y at *
          have INJ := Aside0.mk inj
          clear hZ hP hR inj kk sl F1 F2 F3
          by_cases jk : j = k
          · subst jk
            rw [if_pos ⟨j0, rfl⟩] at F3'
            have F3 := Aside0.mk F3'
            have INJ2 := Aside0.mk (show (X == Y) = (P == R) by
              rw [Bool.eq_iff_iff, beq_iff_eq, beq_iff_eq, INJ.out]
              exact ⟨fun h => h.2, fun h => ⟨rfl, h⟩⟩)
            clear F3' INJ
            go_wp2_with (first | ((with_reducible refine gate_dst (N := 13) rfl ?_); refine box_event ?hg (N := 13) ?hd (cs := (nums .u8 Z).toArray) (t := 36) ?hr ?_; (case hd => rfl); (case hg => rfl); (case hr => rw [HZ.out]; first | (go_simp; done) | (go_simp; rfl)); intro gp hg w3 hbox hb; have GP := Aside0.mk (show w2.heap.size ≤ gp from by omega); have KP := Aside0.mk (show HA w3 gp 36 .u8 Z from hbox); have B3 := Aside0.mk (below_step B2.out hb); have HX3 := Aside0.mk (Kd.R_below HX2.out hb); have HY3 := Aside0.mk (Kd.R_below HY2.out hb); clear hg hbox hb B2 HX2 HY2) | ((with_reducible refine gate_dst (N := 14) rfl ?_); refine box_event ?hg (N := 14) ?hd (cs := (nums .u8 Z).toArray) (t := 36) ?hr ?_; (case hd => rfl); (case hg => rfl); (case hr => rw [HZ.out]; first | (go_simp; done) | (go_simp; rfl)); intro gq hg w4 hbox hb; have GQ := Aside0.mk (show gp < gq from by have := KP.out.lt; omega); have KQ := Aside0.mk (show HA w4 gq 36 .u8 Z from hbox); have KP4 := Aside0.mk (KP.out.below hb); have B4 := Aside0.mk (below_step B3.out hb); have HX4 := Aside0.mk (Kd.R_below HX3.out hb); have HY4 := Aside0.mk (Kd.R_below HY3.out hb); clear hg hbox hb B3 HX3 HY3 KP) | ((with_reducible refine gate_builtin (b := .copy) (xs := #[.tmp 46, .tmp 47]) rfl ?_); refine copy_arr_event (w0 := w) rfl (.tmp 46) (.tmp 47) rfl 36 _ _ _ _ _ _ rfl rfl gp 0 _ l2 KP4.out (fun _ => rfl) (Kd.C_below HR2.out B4.out) (by rw [HZL.out]; omega) (by have := GP.out; have := SW2.out; omega) B4.out ?_; intro w5 hk hoth hb; have KP5 := Aside0.mk (show HA w5 gp 36 .u8 P from by rw [HP.out] at hk; exact hk); have KQ5 := Aside0.mk (show HA w5 gq 36 .u8 Z from (hoth gq (by have := GQ.out; omega)).trans KQ.out); have B5 := Aside0.mk hb; have HX5 := Aside0.mk (Kd.R_move HX4.out (fun q hq => hoth q (by have := hq.2.2.1; have := S12.out; have := GP.out; omega))); have HY5 := Aside0.mk (Kd.R_move HY4.out (fun q hq => hoth q (by have := hq.2.2.1; have := GP.out; omega))); clear hk hoth hb KP4 KQ B4 HX4 HY4) | ((with_reducible refine gate_builtin (b := .copy) (xs := #[.tmp 49, .tmp 50]) rfl ?_); refine copy_arr_event (w0 := w) rfl (.tmp 49) (.tmp 50) rfl 36 _ _ _ _ _ _ rfl rfl gq 0 _ l3 KQ5.out (fun _ => rfl) (Kd.C_below HR3.out B5.out) (by rw [HZL.out]; omega) (by have := GP.out; have := GQ.out; have := SW2.out; omega) B5.out ?_; intro w6 hk hoth hb; have KQ6 := Aside0.mk (show HA w6 gq 36 .u8 R from by rw [HR.out] at hk; exact hk); have KP6 := Aside0.mk (show HA w6 gp 36 .u8 P from (hoth gp (by have := GQ.out; omega)).trans KP5.out); have B6 := Aside0.mk hb; have HX6 := Aside0.mk (Kd.R_move HX5.out (fun q hq => hoth q (by have := hq.2.2.1; have := S12.out; have := GP.out; have := GQ.out; omega))); have HY6 := Aside0.mk (Kd.R_move HY5.out (fun q hq => hoth q (by have := hq.2.2.1; have := GP.out; have := GQ.out; omega))); clear hk hoth hb KP5 KQ5 B5 HX5 HY5))
            refine (seal_Open.calls 400 j _ _ X _ 0 w6 (Kd.R_reads' HX6.out).2.2 (Kd.R_reads' HX6.out).2.1 F3.out).mono ?_
            rintro e7 w7 ⟨vu, rfl, hu, hD⟩
            have B7 := Aside0.mk (below_step B6.out hD)
            have HX7 := Aside0.mk (Kd.R_below HX6.out hD)
            have HY7 := Aside0.mk (Kd.R_below HY6.out hD)
            have KP7 := Aside0.mk (KP6.out.below hD)
            have KQ7 := Aside0.mk (KQ6.out.below hD)
            clear hu hD HX6 HY6 KP6 KQ6
            go_wp2_with fail
            refine (purlinlaw0_SameBytes.calls 400 _ _ X _ _ Y _ w7 (Kd.R_reads' HX7.out).2.2 (Kd.R_reads' HX7.out).2.1 (Kd.R_reads' HY7.out).2.2 (Kd.R_reads' HY7.out).2.1 F5.out).mono ?_
            rintro e8 w8 ⟨rfl, hD⟩
            have B8 := Aside0.mk (below_step B7.out hD.below)
            have KP8 := Aside0.mk (KP7.out.below hD.below)
            have KQ8 := Aside0.mk (KQ7.out.below hD.below)
            clear hD HX7 HY7 KP7 KQ7
            rw [INJ2.out]
            go_wp2_with (first | ((with_reducible refine gate_dst (N := 72) rfl ?_); (try (refine gate_guard (by rfl) ?_; dsimp only)); refine load_arr_event rfl 36 (.tmp 13) rfl KP8.out 123 5 rfl Try.underlying36 (by kernel_rfl) HPL.out ?_) | ((with_reducible refine gate_dst (N := 73) rfl ?_); (try (refine gate_guard (by rfl) ?_; dsimp only)); refine load_arr_event rfl 36 (.tmp 14) rfl KQ8.out 123 5 rfl Try.underlying36 (by kernel_rfl) HRL.out ?_) | ((with_reducible refine gate_dst (N := 74) rfl ?_); (try (refine gate_guard (by rfl) ?_; dsimp only)); refine eq_arr_event rfl 36 5 .u8 123 i0 Try.underlying36 hi0 (by kernel_rfl) Try.underlying5 (by kernel_rfl) (.tmp 72) (.tmp 73) 36 rfl P R HPL.out HRL.out rfl rfl ?_))
            refine (purlinlaw2_awake.calls 400 true w8 F15.out).mono ?_
            rintro e17 w17 ⟨rfl, hD⟩
            have B17 := Aside0.mk (below_step B8.out hD)
            clear hD
            go_wp2
            go_ret
            exact ⟨rfl, B17.out⟩
          · have dj : (j == k) = false := beq_eq_false_iff_ne.mpr jk
            rw [if_neg (fun z => jk z.2)] at F3'
            have F3 := Aside0.mk F3'
            have INJ2 := Aside0.mk (show (X == Y) = false from beq_eq_false_iff_ne.mpr (fun e => jk (INJ.out.1 e).1))
            clear F3' INJ
            go_wp2_with (first | ((with_reducible refine gate_dst (N := 13) rfl ?_); refine box_event ?hg (N := 13) ?hd (cs := (nums .u8 Z).toArray) (t := 36) ?hr ?_; (case hd => rfl); (case hg => rfl); (case hr => rw [HZ.out]; first | (go_simp; done) | (go_simp; rfl)); intro gp hg w3 hbox hb; have GP := Aside0.mk (show w2.heap.size ≤ gp from by omega); have KP := Aside0.mk (show HA w3 gp 36 .u8 Z from hbox); have B3 := Aside0.mk (below_step B2.out hb); have HX3 := Aside0.mk (Kd.R_below HX2.out hb); have HY3 := Aside0.mk (Kd.R_below HY2.out hb); clear hg hbox hb B2 HX2 HY2) | ((with_reducible refine gate_dst (N := 14) rfl ?_); refine box_event ?hg (N := 14) ?hd (cs := (nums .u8 Z).toArray) (t := 36) ?hr ?_; (case hd => rfl); (case hg => rfl); (case hr => rw [HZ.out]; first | (go_simp; done) | (go_simp; rfl)); intro gq hg w4 hbox hb; have GQ := Aside0.mk (show gp < gq from by have := KP.out.lt; omega); have KQ := Aside0.mk (show HA w4 gq 36 .u8 Z from hbox); have KP4 := Aside0.mk (KP.out.below hb); have B4 := Aside0.mk (below_step B3.out hb); have HX4 := Aside0.mk (Kd.R_below HX3.out hb); have HY4 := Aside0.mk (Kd.R_below HY3.out hb); clear hg hbox hb B3 HX3 HY3 KP) | ((with_reducible refine gate_builtin (b := .copy) (xs := #[.tmp 46, .tmp 47]) rfl ?_); refine copy_arr_event (w0 := w) rfl (.tmp 46) (.tmp 47) rfl 36 _ _ _ _ _ _ rfl rfl gp 0 _ l2 KP4.out (fun _ => rfl) (Kd.C_below HR2.out B4.out) (by rw [HZL.out]; omega) (by have := GP.out; have := SW2.out; omega) B4.out ?_; intro w5 hk hoth hb; have KP5 := Aside0.mk (show HA w5 gp 36 .u8 P from by rw [HP.out] at hk; exact hk); have KQ5 := Aside0.mk (show HA w5 gq 36 .u8 Z from (hoth gq (by have := GQ.out; omega)).trans KQ.out); have B5 := Aside0.mk hb; have HX5 := Aside0.mk (Kd.R_move HX4.out (fun q hq => hoth q (by have := hq.2.2.1; have := S12.out; have := GP.out; omega))); have HY5 := Aside0.mk (Kd.R_move HY4.out (fun q hq => hoth q (by have := hq.2.2.1; have := GP.out; omega))); clear hk hoth hb KP4 KQ B4 HX4 HY4) | ((with_reducible refine gate_builtin (b := .copy) (xs := #[.tmp 49, .tmp 50]) rfl ?_); refine copy_arr_event (w0 := w) rfl (.tmp 49) (.tmp 50) rfl 36 _ _ _ _ _ _ rfl rfl gq 0 _ l3 KQ5.out (fun _ => rfl) (Kd.C_below HR3.out B5.out) (by rw [HZL.out]; omega) (by have := GP.out; have := GQ.out; have := SW2.out; omega) B5.out ?_; intro w6 hk hoth hb; have KQ6 := Aside0.mk (show HA w6 gq 36 .u8 R from by rw [HR.out] at hk; exact hk); have KP6 := Aside0.mk (show HA w6 gp 36 .u8 P from (hoth gp (by have := GQ.out; omega)).trans KP5.out); have B6 := Aside0.mk hb; have HX6 := Aside0.mk (Kd.R_move HX5.out (fun q hq => hoth q (by have := hq.2.2.1; have := S12.out; have := GP.out; have := GQ.out; omega))); have HY6 := Aside0.mk (Kd.R_move HY5.out (fun q hq => hoth q (by have := hq.2.2.1; have := GP.out; have := GQ.out; omega))); clear hk hoth hb KP5 KQ5 B5 HX5 HY5))
            refine (seal_Open.calls 400 k _ _ X _ 3 w6 (Kd.R_reads' HX6.out).2.2 (Kd.R_reads' HX6.out).2.1 F3.out).mono ?_
            rintro e7 w7 ⟨vu, rfl, hu, hD⟩
            have B7 := Aside0.mk (below_step B6.out hD)
            have HX7 := Aside0.mk (Kd.R_below HX6.out hD)
            have HY7 := Aside0.mk (Kd.R_below HY6.out hD)
            have KP7 := Aside0.mk (KP6.out.below hD)
            have KQ7 := Aside0.mk (KQ6.out.below hD)
            clear hu hD HX6 HY6 KP6 KQ6
            go_wp2_with fail
            refine (purlinlaw0_SameBytes.calls 400 _ _ X _ _ Y _ w7 (Kd.R_reads' HX7.out).2.2 (Kd.R_reads' HX7.out).2.1 (Kd.R_reads' HY7.out).2.2 (Kd.R_reads' HY7.out).2.1 F5.out).mono ?_
            rintro e8 w8 ⟨rfl, hD⟩
            have B8 := Aside0.mk (below_step B7.out hD.below)
            have KP8 := Aside0.mk (KP7.out.below hD.below)
            have KQ8 := Aside0.mk (KQ7.out.below hD.below)
            clear hD HX7 HY7 KP7 KQ7
            rw [INJ2.out]
            go_wp2_with fail
            refine (purlinlaw2_awake.calls 400 true w8 F15.out).mono ?_
            rintro e17 w17 ⟨rfl, hD⟩
            have B17 := Aside0.mk (below_step B8.out hD)
            clear hD
            go_wp2
            go_ret
            exact ⟨rfl, B17.out⟩
    · have d1 : decide (123 < (l2.length : Int)) = false := decide_eq_false (by omega)
      have d2 : decide (123 < l2.length) = false := decide_eq_false (by omega)
      have d3 : decide (123 < (l3.length : Int)) = true := decide_eq_true (by omega)
      have d4 : decide (123 < l3.length) = true := decide_eq_true (by omega)
      have F15 := Aside0.mk short
      clear short hr2 hr3 hc2 hc3 by2 by3 bj bk
      go_enter Try.func5, Try.ntmps5
      go_wp2_with fail
      refine (purlinlaw2_awake.calls 400 true w F15.out).mono ?_
      rintro e17 w17 ⟨rfl, hD⟩
      go_wp2
      go_ret
      exact ⟨rfl, hD⟩
  · have d1 : decide (123 < (l2.length : Int)) = true := decide_eq_true (by omega)
    have d2 : decide (123 < l2.length) = true := decide_eq_true (by omega)
    have F15 := Aside0.mk short
    clear short hr2 hr3 hc2 hc3 by2 by3 bj bk
    go_enter Try.func5, Try.ntmps5
    go_wp2_with fail
    refine (purlinlaw2_awake.calls 400 true w F15.out).mono ?_
    rintro e17 w17 ⟨rfl, hD⟩
    go_wp2
    go_ret
    exact ⟨rfl, hD⟩
theorem byte_of_wf {a : Int} (h : (Lit.int .u8 a).wf = true) : 0 ≤ a ∧ a < 256 := By.of_wf (l := [a]) (by intro x hx; simp at hx; rw [hx]; exact h) a (by simp)
theorem purlinlaw2_SealApart.walk (a0 a1 : Int) (a2 : Option Addr) (len2 cap2 : Nat) (z2 : List Int) (a3 : Option Addr) (len3 cap3 : Nat) (z3 : List Int) (w : World) (w0 : (Lit.int .u8 a0).wf = true) (w1 : (Lit.int .u8 a1).wf = true)
    (w2 : (a2 = none ∧ len2 = 0 ∧ cap2 = 0 ∧ z2 = []) ∨ ∃ x, a2 = some x ∧ len2 ≤ cap2 ∧ cap2 ≤ maxLen ∧ z2.length = cap2 ∧ (∀ i, i < z2.length → w.cell? (x.add i) = some (.int .u8 (z2.getD i 0))) ∧ ∀ n ∈ z2, (Lit.int .u8 n).wf = true) (y2 : len2 * 1 ≤ 140737488351232)
    (w3 : (a3 = none ∧ len3 = 0 ∧ cap3 = 0 ∧ z3 = []) ∨ ∃ x, a3 = some x ∧ len3 ≤ cap3 ∧ cap3 ≤ maxLen ∧ z3.length = cap3 ∧ (∀ i, i < z3.length → w.cell? (x.add i) = some (.int .u8 (z3.getD i 0))) ∧ ∀ n ∈ z3, (Lit.int .u8 n).wf = true) (y3 : len3 * 1 ≤ 140737488351232) :
    Calls Try.prog 5 #[.int .u8 a0, .int .u8 a1, .slice a2 len2 cap2, .slice a3 len3 cap3] w fun e w' => e = .returned (.bool true) ∧ Below w.heap.size w w' := by
  obtain ⟨l2, rfl, hr2, hm2, hw2, hc2⟩ := ReadsInt.ofRowC w2
  obtain ⟨l3, rfl, hr3, hm3, hw3, hc3⟩ := ReadsInt.ofRowC w3
  exact purlinlaw2_SealApart.calls a0 a1 _ _ l2 _ _ l3 w (byte_of_wf w0) (byte_of_wf w1) (Kd.C_of_reads (d := (0 : Int)) (h1 := fun _ => rfl) hr2) hc2 (By.of_wf hw2) (Kd.C_of_reads (d := (0 : Int)) (h1 := fun _ => rfl) hr3) hc3 (By.of_wf hw3)
end Go.Proofs.Ytnhpmmmkcemnmaa.Pc
