/- ptr.Empty, and what is asked of every program that is one: their walks, by hand. -/
import Derived.Test.YtnhpmmmkcemnmaaHpb
namespace Go.Proofs.Ytnhpmmmkcemnmaa.Pc
open Go.RowKit Go.Proofs.YtnhpmmmkcemnmaaW.PrintWords Go.Proofs.YtnhpmmmkcemnmaaW.PrintLast Go.Proofs.YtnhpmmmkcemnmaaW.PrintMore
set_option linter.unusedVariables false
set_option linter.unusedSimpArgs false

set_option maxHeartbeats 1600000 in
set_option maxRecDepth 100000 in
theorem ptr_Empty.calls (ps : List Int) (hl : ps.length = 12) (w : World) :
    Calls Try.prog 50 #[.agg (nums .i64 ps).toArray] w fun e w' => e = .returned (.bool (ps == zero12)) ∧ Below w.heap.size w w' := by
  have HL := Aside0.mk hl
  have HB := Aside0.mk (Below.refl w.heap.size w)
  obtain ⟨i0, hi, hz0, hz1, hz2⟩ := info_parts info3
  have HI := Aside0.mk hi
  clear hl hi hz0 hz1 hz2
  go_enter Try.func50, Try.ntmps50
  go_wp2_with (first | ((with_reducible refine gate_dst (N := 1) rfl ?_); refine box_event ?hg (N := 1) ?hd (cs := (nums .i64 ps).toArray) (t := 49) ?hr ?_; (case hd => rfl); (case hg => rfl); (case hr => first | (go_simp; done) | (go_simp; rfl)); intro g0 hg w0 hbox hb; have B0 := Aside0.mk (below_step HB.out hb); have K0 := Aside0.mk (show HA w0 g0 49 .i64 ps from hbox); clear hg hbox hb HB) | ((with_reducible refine gate_dst (N := 3) rfl ?_); refine load_row_event rfl _ rfl K0.out rfl (by rw [HL.out]; exact row49) ?_) | ((with_reducible refine gate_dst (N := 5) rfl ?_); refine eq_arr_event rfl 49 3 .i64 12 i0 Try.underlying49 HI.out (by kernel_rfl) Try.underlying3 (by kernel_rfl) (.tmp 3) (.tmp 4) 49 rfl ps zero12 HL.out rfl rfl rfl ?_))
  go_ret
  exact ⟨rfl, B0.out⟩

theorem ptr700 : ptrOk [0, 0, 0, 700, 0, 0, 0, 0, 0, 0, 0, 0] = true := by decide
set_option maxHeartbeats 1600000 in
set_option maxRecDepth 100000 in
theorem purlinlaw8_awake.calls (w : World) : Calls Try.prog 45 #[] w fun e w' => e = .returned (.bool true) ∧ Below w.heap.size w w' := by
  have HB := Aside0.mk (Below.refl w.heap.size w)
  obtain ⟨ps, hps⟩ : ∃ ps : List Int, ps = [0, 0, 0, 700, 0, 0, 0, 0, 0, 0, 0, 0] := ⟨_, rfl⟩
  have HPS := Aside0.mk hps
  have HPL := Aside0.mk (show ps.length = 12 from by rw [hps]; rfl)
  have HPO := Aside0.mk (show ptrOk ps = true from by rw [hps]; exact ptr700)
  have HP3 := Aside0.mk (show ps.getD 3 0 = 700 from by rw [hps]; rfl)
  have HPE := Aside0.mk (show (ps == zero12) = false from by rw [hps]; decide)
  clear hps
  obtain ⟨X, hX⟩ : ∃ X, X = sealZ 80 (ptrBody ps) := ⟨_, rfl⟩
  have HLZ := Aside0.mk (show ptrLayZ ps = (X, 0) from by rw [ptrLayZ, if_pos HPO.out, hX])
  have HXB := Aside0.mk (show By X from by rw [hX]; exact sealZ_by (k := 80) (by omega) (by omega) (ptrBody_by HPO.out))
  have HXL := Aside0.mk (show X.length = 128 from by rw [hX]; exact sealZ_len 80 _ (by rw [ptrBody_len, HPL.out]; omega))
  have HXR := Aside0.mk (show ptrReadZ X = (ps, 0) from by rw [hX]; exact ptrRead_laid HPL.out HPO.out)
  clear hX
  obtain ⟨Z, hZ⟩ : ∃ Z : List Int, Z = List.replicate 128 0 := ⟨_, rfl⟩
  have HZL := Aside0.mk (show Z.length = 128 from by rw [hZ]; rfl)
  have HZR := Aside0.mk (show ptrReadZ Z = (zero12, 3) from ptrRead_none (by rw [hZ]; decide))
  have HZB := Aside0.mk (show By Z from by rw [hZ]; exact By.zeros _)
  have HZ := Aside0.mk hZ
  clear hZ
  go_enter Try.func45, Try.ntmps45
  go_wp2_with fail
  refine (show Calls Try.prog 46 #[.agg (nums .i64 [0, 0, 0, 700, 0, 0, 0, 0, 0, 0, 0, 0]).toArray] w _ from (ptr_Lay.calls [0, 0, 0, 700, 0, 0, 0, 0, 0, 0, 0, 0] rfl w).mono ?_)
  rintro e1 w1 ⟨vx, rfl, hx, hB⟩
  rw [← HPS.out, HLZ.out] at hx
  rw [← HPS.out, HLZ.out]
  have B1 := Aside0.mk hB
  have HX1 := Aside0.mk hx
  clear hx hB
  obtain ⟨Ax, cx, rfl⟩ := Kd.R_slice HX1.out
  go_wp2_with fail
  refine (ptr_Read.calls _ _ X w1 (Kd.R_reads' HX1.out).2.2 (Kd.R_reads' HX1.out).2.1 HXB.out).mono ?_
  rintro e2 w2 ⟨rfl, hB⟩
  rw [HXR.out]
  have B2 := Aside0.mk (below_step B1.out hB)
  clear hB HX1
  go_wp2_with (first | ((with_reducible refine gate_dst (N := 3) rfl ?_); refine box_event ?hg (N := 3) ?hd (cs := (nums .i64 zero12).toArray) (t := 49) ?hr ?_; (case hd => rfl); (case hg => rfl); (case hr => first | (go_simp; done) | (go_simp; rfl)); intro g3 hg w3 hbox hb; have B3 := Aside0.mk (below_step B2.out hb); have K3 := Aside0.mk (show HA w3 g3 49 .i64 zero12 from hbox); have G3 := Aside0.mk (show w.heap.size ≤ g3 from by have := B2.out.size; omega); clear hg hbox hb) | ((with_reducible refine gate_store (t := 49) (p := 3) rfl ?_); refine store_row_event (w0 := w) rfl rfl 3 _ rfl (new := ps) K3.out rfl rfl (by rw [HPL.out]; exact row49) HPL.out.symm G3.out B3.out ?_; intro w4 hk hgr hb; have K4 := Aside0.mk hk; have B4 := Aside0.mk hb; clear hk hgr hb) | ((with_reducible refine gate_dst (N := 18) rfl ?_); refine make_bytes_event (w0 := w) rfl (N := 18) rfl _ _ rfl 128 128 rfl rfl (by omega) (by omega) B4.out ?_; intro gm w5 hg0 hb0 hb1 hb2; have KM := Aside0.mk (show HB8 w5 gm Z from by rw [HZ.out]; exact hb0); have K5 := Aside0.mk (K4.out.below hb1); have B5 := Aside0.mk hb2; clear hg0 hb0 hb1 hb2))
  have hC := KM.out.reads 0 128 (by rw [HZL.out]; omega) (by omega)
  have HCZ := Aside0.mk (show Kd.C (Kd.int .u8) w5 (some ⟨gm, 0, none⟩) Z.length Z from by
    have e1 : (List.drop 0 Z).take 128 = Z := by rw [List.drop_zero, List.take_of_length_le (by rw [HZL.out]; omega)]
    rw [e1] at hC
    rw [HZL.out]
    exact hC)
  clear hC
  have hr := ptr_Read.calls (some ⟨gm, 0, none⟩) 128 Z w5 HCZ.out (by rw [HZL.out]; omega) HZB.out
  rw [HZL.out, HZR.out] at hr
  refine hr.mono ?_
  clear hr
  rintro e6 w6 ⟨rfl, hB⟩
  have B6 := Aside0.mk (below_step B5.out hB)
  have K6 := Aside0.mk (K5.out.below hB)
  clear hB
  go_wp2_with (first | ((with_reducible refine gate_dst (N := 5) rfl ?_); refine box_event ?hg7 (N := 5) ?hd7 (cs := (nums .i64 zero12).toArray) (t := 49) ?hr7 ?_; (case hd7 => rfl); (case hg7 => rfl); (case hr7 => first | (go_simp; done) | (go_simp; rfl)); intro g5 hg w7 hbox hb; have B7 := Aside0.mk (below_step B6.out hb); have K7 := Aside0.mk (show HA w7 g5 49 .i64 zero12 from hbox); have G5 := Aside0.mk (show w.heap.size ≤ g5 from by have := B6.out.size; omega); have N35 := Aside0.mk (show g3 ≠ g5 from by have := K6.out.lt; omega); have K67 := Aside0.mk (K6.out.below hb); clear hg hbox hb) | ((with_reducible refine gate_store (t := 49) (p := 5) rfl ?_); refine store_row_event (w0 := w) rfl rfl 5 _ rfl (new := zero12) K7.out rfl rfl row49 rfl G5.out B7.out ?_; intro w8 hk hgr hb; have B8 := Aside0.mk hb; have K8 := Aside0.mk (show HA w8 g3 49 .i64 ps from K67.out.grown hgr (fun h => by injection h with h; exact N35.out h)); have hc3 := (show w8.cell? ⟨g3, 3, none⟩ = some (.int .i64 700) from by have h := K8.out.cell 3 (by rw [HPL.out]; omega); rw [HP3.out] at h; exact h); have hxl : ((X.length : Int) == 128) = true := (by rw [HXL.out]; rfl); clear hk hgr hb))
  refine (show Calls Try.prog 50 #[.agg (nums .i64 zero12).toArray] w8 _ from (ptr_Empty.calls zero12 rfl w8).mono ?_)
  rintro e9 w9 ⟨rfl, hB⟩
  rw [show (zero12 == zero12) = true from rfl]
  have B9 := Aside0.mk (below_step B8.out hB)
  have K9 := Aside0.mk (K8.out.below hB)
  clear hB hc3
  go_wp2_with (first | ((with_reducible refine gate_dst (N := 47) rfl ?_); (try (refine gate_guard (by rfl) ?_; dsimp only)); refine load_row_event rfl _ rfl K9.out rfl (by rw [HPL.out]; exact row49) ?_))
  refine (ptr_Empty.calls ps HPL.out w9).mono ?_
  rintro e10 w10 ⟨rfl, hB⟩
  rw [HPE.out]
  have B10 := Aside0.mk (below_step B9.out hB)
  clear hB
  go_wp2
  go_ret
  exact ⟨rfl, B10.out⟩
end Go.Proofs.Ytnhpmmmkcemnmaa.Pc
