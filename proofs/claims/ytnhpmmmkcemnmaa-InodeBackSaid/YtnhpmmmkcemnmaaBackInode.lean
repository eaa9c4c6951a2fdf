/- The walk of InodeBack, by hand: it answers true whatever it is given. -/
import Derived.Test.YtnhpmmmkcemnmaaHt
namespace Go.Proofs.Ytnhpmmmkcemnmaa.Pc
open Go.RowKit Go.Proofs.YtnhpmmmkcemnmaaW.PrintWords Go.Proofs.YtnhpmmmkcemnmaaW.PrintLast Go.Proofs.YtnhpmmmkcemnmaaW.PrintMore
set_option linter.unusedVariables false
set_option linter.unusedSimpArgs false

theorem okTo_four (is : List Int) : okTo is 4 = (mayZ (chunk is 0) && mayZ (chunk is 1) && mayZ (chunk is 2) && mayZ (chunk is 3)) := by
  rw [okTo_succ, okTo_succ, okTo_succ, okTo_succ]
  rfl
set_option maxHeartbeats 6400000 in
set_option maxRecDepth 100000 in
theorem purlinlaw7_InodeBack.calls (is : List Int) (hl : is.length = 44) (w : World) :
    Calls Try.prog 19 #[.agg (nums .i64 is).toArray] w fun e w' => e = .returned (.bool true) ∧ Below w.heap.size w w' := by
  have HL := Aside0.mk hl
  have HB := Aside0.mk (Below.refl w.heap.size w)
  have h4 := okTo_four is
  clear hl
  cases m0 : mayZ (chunk is 0) with
  | false =>
    have HLZ := Aside0.mk (show layIZ is = ([], 2) from by rw [layIZ, h4, m0]; rfl)
    have M0 := Aside0.mk m0
    clear m0 h4
    go_enter Try.func19, Try.ntmps19
    go_wp2_with (first | ((with_reducible refine gate_dst (N := 1) rfl ?_); refine box_event ?hg1 (N := 1) ?hd1 (cs := (nums .i64 is).toArray) (t := 74) ?hr1 ?_; (case hd1 => rfl); (case hg1 => rfl); (case hr1 => first | (go_simp; done) | (go_simp; rfl)); intro g1 hg w0 hbox hb; have B0 := Aside0.mk (below_step HB.out hb); have K0 := Aside0.mk (show HA w0 g1 74 .i64 is from hbox); clear hg hbox hb) | ((with_reducible refine gate_dst (N := 9) rfl ?_); (try (refine gate_guard (by rfl) ?_; dsimp only)); refine load_row_event rfl _ rfl K0.out rfl (by rw [HL.out]; exact row74) ?_))
    refine (inode_Lay.calls is HL.out w0).mono ?_
    rintro e1 w1 ⟨vx, rfl, hx, hB⟩
    rw [HLZ.out] at hx
    rw [HLZ.out]
    have B1 := Aside0.mk (below_step B0.out hB)
    have K1 := Aside0.mk (K0.out.below hB)
    have HX1 := Aside0.mk hx
    obtain ⟨Ax, cx, rfl⟩ := Kd.R_slice HX1.out
    clear hx hB
    go_wp2_with (first | ((with_reducible refine gate_dst (N := 14) rfl ?_); (try (refine gate_guard (by rfl) ?_; dsimp only)); refine Kd.event_run rfl (w1 := w1) (load_mid_exec (lo := 0) (n := 11) rfl K1.out rfl row73 (by rw [HL.out]; omega)) ?_))
    refine (inode_May.calls (chunk is 0) (chunk_len HL.out 0 (by omega)) w1).mono ?_
    rintro ewm0 wm0 ⟨rfl, hB⟩
    rw [M0.out]
    have Bwm0 := Aside0.mk (below_step B1.out hB)
    have Kwm0 := Aside0.mk (K1.out.below hB)
    clear hB
    go_wp2_with fail
    refine (purlinlaw7_awake.calls wm0).mono ?_
    rintro e17 w17 ⟨rfl, hD⟩
    have B17 := Aside0.mk (below_step Bwm0.out hD)
    clear hD
    go_wp2
    go_ret
    exact ⟨rfl, B17.out⟩
  | true =>
    have M0 := Aside0.mk m0
    cases m1 : mayZ (chunk is 1) with
    | false =>
      have HLZ := Aside0.mk (show layIZ is = ([], 2) from by rw [layIZ, h4, m0, m1]; rfl)
      have M1 := Aside0.mk m1
      clear m0 m1 h4
      go_enter Try.func19, Try.ntmps19
      go_wp2_with (first | ((with_reducible refine gate_dst (N := 1) rfl ?_); refine box_event ?hg1 (N := 1) ?hd1 (cs := (nums .i64 is).toArray) (t := 74) ?hr1 ?_; (case hd1 => rfl); (case hg1 => rfl); (case hr1 => first | (go_simp; done) | (go_simp; rfl)); intro g1 hg w0 hbox hb; have B0 := Aside0.mk (below_step HB.out hb); have K0 := Aside0.mk (show HA w0 g1 74 .i64 is from hbox); clear hg hbox hb) | ((with_reducible refine gate_dst (N := 9) rfl ?_); (try (refine gate_guard (by rfl) ?_; dsimp only)); refine load_row_event rfl _ rfl K0.out rfl (by rw [HL.out]; exact row74) ?_))
      refine (inode_Lay.calls is HL.out w0).mono ?_
      rintro e1 w1 ⟨vx, rfl, hx, hB⟩
      rw [HLZ.out] at hx
      rw [HLZ.out]
      have B1 := Aside0.mk (below_step B0.out hB)
      have K1 := Aside0.mk (K0.out.below hB)
      have HX1 := Aside0.mk hx
      obtain ⟨Ax, cx, rfl⟩ := Kd.R_slice HX1.out
      clear hx hB
      go_wp2_with (first | ((with_reducible refine gate_dst (N := 14) rfl ?_); (try (refine gate_guard (by rfl) ?_; dsimp only)); refine Kd.event_run rfl (w1 := w1) (load_mid_exec (lo := 0) (n := 11) rfl K1.out rfl row73 (by rw [HL.out]; omega)) ?_))
      refine (inode_May.calls (chunk is 0) (chunk_len HL.out 0 (by omega)) w1).mono ?_
      rintro ewm0 wm0 ⟨rfl, hB⟩
      rw [M0.out]
      have Bwm0 := Aside0.mk (below_step B1.out hB)
      have Kwm0 := Aside0.mk (K1.out.below hB)
      clear hB
      go_wp2_with (first | ((with_reducible refine gate_dst (N := 18) rfl ?_); (try (refine gate_guard (by rfl) ?_; dsimp only)); refine Kd.event_run rfl (w1 := wm0) (load_mid_exec (lo := 11) (n := 11) rfl Kwm0.out rfl row73 (by rw [HL.out]; omega)) ?_))
      refine (inode_May.calls (chunk is 1) (chunk_len HL.out 1 (by omega)) wm0).mono ?_
      rintro ewm1 wm1 ⟨rfl, hB⟩
      rw [M1.out]
      have Bwm1 := Aside0.mk (below_step Bwm0.out hB)
      have Kwm1 := Aside0.mk (Kwm0.out.below hB)
      clear hB
      go_wp2_with fail
      refine (purlinlaw7_awake.calls wm1).mono ?_
      rintro e17 w17 ⟨rfl, hD⟩
      have B17 := Aside0.mk (below_step Bwm1.out hD)
      clear hD
      go_wp2
      go_ret
      exact ⟨rfl, B17.out⟩
    | true =>
      have M1 := Aside0.mk m1
      cases m2 : mayZ (chunk is 2) with
      | false =>
        have HLZ := Aside0.mk (show layIZ is = ([], 2) from by rw [layIZ, h4, m0, m1, m2]; rfl)
        have M2 := Aside0.mk m2
        clear m0 m1 m2 h4
        go_enter Try.func19, Try.ntmps19
        go_wp2_with (first | ((with_reducible refine gate_dst (N := 1) rfl ?_); refine box_event ?hg1 (N := 1) ?hd1 (cs := (nums .i64 is).toArray) (t := 74) ?hr1 ?_; (case hd1 => rfl); (case hg1 => rfl); (case hr1 => first | (go_simp; done) | (go_simp; rfl)); intro g1 hg w0 hbox hb; have B0 := Aside0.mk (below_step HB.out hb); have K0 := Aside0.mk (show HA w0 g1 74 .i64 is from hbox); clear hg hbox hb) | ((with_reducible refine gate_dst (N := 9) rfl ?_); (try (refine gate_guard (by rfl) ?_; dsimp only)); refine load_row_event rfl _ rfl K0.out rfl (by rw [HL.out]; exact row74) ?_))
        refine (inode_Lay.calls is HL.out w0).mono ?_
        rintro e1 w1 ⟨vx, rfl, hx, hB⟩
        rw [HLZ.out] at hx
        rw [HLZ.out]
        have B1 := Aside0.mk (below_step B0.out hB)
        have K1 := Aside0.mk (K0.out.below hB)
        have HX1 := Aside0.mk hx
        obtain ⟨Ax, cx, rfl⟩ := Kd.R_slice HX1.out
        clear hx hB
        go_wp2_with (first | ((with_reducible refine gate_dst (N := 14) rfl ?_); (try (refine gate_guard (by rfl) ?_; dsimp only)); refine Kd.event_run rfl (w1 := w1) (load_mid_exec (lo := 0) (n := 11) rfl K1.out rfl row73 (by rw [HL.out]; omega)) ?_))
        refine (inode_May.calls (chunk is 0) (chunk_len HL.out 0 (by omega)) w1).mono ?_
        rintro ewm0 wm0 ⟨rfl, hB⟩
        rw [M0.out]
        have Bwm0 := Aside0.mk (below_step B1.out hB)
        have Kwm0 := Aside0.mk (K1.out.below hB)
        clear hB
        go_wp2_with (first | ((with_reducible refine gate_dst (N := 18) rfl ?_); (try (refine gate_guard (by rfl) ?_; dsimp only)); refine Kd.event_run rfl (w1 := wm0) (load_mid_exec (lo := 11) (n := 11) rfl Kwm0.out rfl row73 (by rw [HL.out]; omega)) ?_))
        refine (inode_May.calls (chunk is 1) (chunk_len HL.out 1 (by omega)) wm0).mono ?_
        rintro ewm1 wm1 ⟨rfl, hB⟩
        rw [M1.out]
        have Bwm1 := Aside0.mk (below_step Bwm0.out hB)
        have Kwm1 := Aside0.mk (Kwm0.out.below hB)
        clear hB
        go_wp2_with (first | ((with_reducible refine gate_dst (N := 23) rfl ?_); (try (refine gate_guard (by rfl) ?_; dsimp only)); refine Kd.event_run rfl (w1 := wm1) (load_mid_exec (lo := 22) (n := 11) rfl Kwm1.out rfl row73 (by rw [HL.out]; omega)) ?_))
        refine (inode_May.calls (chunk is 2) (chunk_len HL.out 2 (by omega)) wm1).mono ?_
        rintro ewm2 wm2 ⟨rfl, hB⟩
        rw [M2.out]
        have Bwm2 := Aside0.mk (below_step Bwm1.out hB)
        have Kwm2 := Aside0.mk (Kwm1.out.below hB)
        clear hB
        go_wp2_with fail
        refine (purlinlaw7_awake.calls wm2).mono ?_
        rintro e17 w17 ⟨rfl, hD⟩
        have B17 := Aside0.mk (below_step Bwm2.out hD)
        clear hD
        go_wp2
        go_ret
        exact ⟨rfl, B17.out⟩
      | true =>
        have M2 := Aside0.mk m2
        cases m3 : mayZ (chunk is 3) with
        | false =>
          have HLZ := Aside0.mk (show layIZ is = ([], 2) from by rw [layIZ, h4, m0, m1, m2, m3]; rfl)
          have M3 := Aside0.mk m3
          clear m0 m1 m2 m3 h4
          go_enter Try.func19, Try.ntmps19
          go_wp2_with (first | ((with_reducible refine gate_dst (N := 1) rfl ?_); refine box_event ?hg1 (N := 1) ?hd1 (cs := (nums .i64 is).toArray) (t := 74) ?hr1 ?_; (case hd1 => rfl); (case hg1 => rfl); (case hr1 => first | (go_simp; done) | (go_simp; rfl)); intro g1 hg w0 hbox hb; have B0 := Aside0.mk (below_step HB.out hb); have K0 := Aside0.mk (show HA w0 g1 74 .i64 is from hbox); clear hg hbox hb) | ((with_reducible refine gate_dst (N := 9) rfl ?_); (try (refine gate_guard (by rfl) ?_; dsimp only)); refine load_row_event rfl _ rfl K0.out rfl (by rw [HL.out]; exact row74) ?_))
          refine (inode_Lay.calls is HL.out w0).mono ?_
          rintro e1 w1 ⟨vx, rfl, hx, hB⟩
          rw [HLZ.out] at hx
          rw [HLZ.out]
          have B1 := Aside0.mk (below_step B0.out hB)
          have K1 := Aside0.mk (K0.out.below hB)
          have HX1 := Aside0.mk hx
          obtain ⟨Ax, cx, rfl⟩ := Kd.R_slice HX1.out
          clear hx hB
          go_wp2_with (first | ((with_reducible refine gate_dst (N := 14) rfl ?_); (try (refine gate_guard (by rfl) ?_; dsimp only)); refine Kd.event_run rfl (w1 := w1) (load_mid_exec (lo := 0) (n := 11) rfl K1.out rfl row73 (by rw [HL.out]; omega)) ?_))
          refine (inode_May.calls (chunk is 0) (chunk_len HL.out 0 (by omega)) w1).mono ?_
          rintro ewm0 wm0 ⟨rfl, hB⟩
          rw [M0.out]
          have Bwm0 := Aside0.mk (below_step B1.out hB)
          have Kwm0 := Aside0.mk (K1.out.below hB)
          clear hB
          go_wp2_with (first | ((with_reducible refine gate_dst (N := 18) rfl ?_); (try (refine gate_guard (by rfl) ?_; dsimp only)); refine Kd.event_run rfl (w1 := wm0) (load_mid_exec (lo := 11) (n := 11) rfl Kwm0.out rfl row73 (by rw [HL.out]; omega)) ?_))
          refine (inode_May.calls (chunk is 1) (chunk_len HL.out 1 (by omega)) wm0).mono ?_
          rintro ewm1 wm1 ⟨rfl, hB⟩
          rw [M1.out]
          have Bwm1 := Aside0.mk (below_step Bwm0.out hB)
          have Kwm1 := Aside0.mk (Kwm0.out.below hB)
          clear hB
          go_wp2_with (first | ((with_reducible refine gate_dst (N := 23) rfl ?_); (try (refine gate_guard (by rfl) ?_; dsimp only)); refine Kd.event_run rfl (w1 := wm1) (load_mid_exec (lo := 22) (n := 11) rfl Kwm1.out rfl row73 (by rw [HL.out]; omega)) ?_))
          refine (inode_May.calls (chunk is 2) (chunk_len HL.out 2 (by omega)) wm1).mono ?_
          rintro ewm2 wm2 ⟨rfl, hB⟩
          rw [M2.out]
          have Bwm2 := Aside0.mk (below_step Bwm1.out hB)
          have Kwm2 := Aside0.mk (Kwm1.out.below hB)
          clear hB
          go_wp2_with (first | ((with_reducible refine gate_dst (N := 28) rfl ?_); (try (refine gate_guard (by rfl) ?_; dsimp only)); refine Kd.event_run rfl (w1 := wm2) (load_mid_exec (lo := 33) (n := 11) rfl Kwm2.out rfl row73 (by rw [HL.out]; omega)) ?_))
          refine (inode_May.calls (chunk is 3) (chunk_len HL.out 3 (by omega)) wm2).mono ?_
          rintro ewm3 wm3 ⟨rfl, hB⟩
          rw [M3.out]
          have Bwm3 := Aside0.mk (below_step Bwm2.out hB)
          have Kwm3 := Aside0.mk (Kwm2.out.below hB)
          clear hB
          go_wp2_with fail
          refine (purlinlaw7_awake.calls wm3).mono ?_
          rintro e17 w17 ⟨rfl, hD⟩
          have B17 := Aside0.mk (below_step Bwm3.out hD)
          clear hD
          go_wp2
          go_ret
          exact ⟨rfl, B17.out⟩
        | true =>
          have M3 := Aside0.mk m3
          have ho : okTo is 4 = true := by rw [h4, m0, m1, m2, m3]; rfl
          obtain ⟨X, hX⟩ : ∃ X, X = sealZ 73 (bodyTo is 4) := ⟨_, rfl⟩
          have HLZ := Aside0.mk (show layIZ is = (X, 0) from by rw [layIZ, if_pos ho, hX])
          have HXB := Aside0.mk (show By X from by rw [hX]; exact sealI_by is)
          have HXL := Aside0.mk (show X.length = 128 from by rw [hX]; exact sealI_len HL.out)
          have HXR := Aside0.mk (show readIZ X = (is, 0) from by rw [hX]; exact readI_laid HL.out ho)
          clear m0 m1 m2 m3 h4 hX ho
          go_enter Try.func19, Try.ntmps19
          go_wp2_with (first | ((with_reducible refine gate_dst (N := 1) rfl ?_); refine box_event ?hg1 (N := 1) ?hd1 (cs := (nums .i64 is).toArray) (t := 74) ?hr1 ?_; (case hd1 => rfl); (case hg1 => rfl); (case hr1 => first | (go_simp; done) | (go_simp; rfl)); intro g1 hg w0 hbox hb; have B0 := Aside0.mk (below_step HB.out hb); have K0 := Aside0.mk (show HA w0 g1 74 .i64 is from hbox); clear hg hbox hb) | ((with_reducible refine gate_dst (N := 9) rfl ?_); (try (refine gate_guard (by rfl) ?_; dsimp only)); refine load_row_event rfl _ rfl K0.out rfl (by rw [HL.out]; exact row74) ?_))
          refine (inode_Lay.calls is HL.out w0).mono ?_
          rintro e1 w1 ⟨vx, rfl, hx, hB⟩
          rw [HLZ.out] at hx
          rw [HLZ.out]
          have B1 := Aside0.mk (below_step B0.out hB)
          have K1 := Aside0.mk (K0.out.below hB)
          have HX1 := Aside0.mk hx
          obtain ⟨Ax, cx, rfl⟩ := Kd.R_slice HX1.out
          clear hx hB
          go_wp2_with (first | ((with_reducible refine gate_dst (N := 14) rfl ?_); (try (refine gate_guard (by rfl) ?_; dsimp only)); refine Kd.event_run rfl (w1 := w1) (load_mid_exec (lo := 0) (n := 11) rfl K1.out rfl row73 (by rw [HL.out]; omega)) ?_))
          refine (inode_May.calls (chunk is 0) (chunk_len HL.out 0 (by omega)) w1).mono ?_
          rintro ewm0 wm0 ⟨rfl, hB⟩
          rw [M0.out]
          have Bwm0 := Aside0.mk (below_step B1.out hB)
          have Kwm0 := Aside0.mk (K1.out.below hB)
          have HXwm0 := Aside0.mk (Kd.R_below HX1.out hB)
          clear hB
          go_wp2_with (first | ((with_reducible refine gate_dst (N := 18) rfl ?_); (try (refine gate_guard (by rfl) ?_; dsimp only)); refine Kd.event_run rfl (w1 := wm0) (load_mid_exec (lo := 11) (n := 11) rfl Kwm0.out rfl row73 (by rw [HL.out]; omega)) ?_))
          refine (inode_May.calls (chunk is 1) (chunk_len HL.out 1 (by omega)) wm0).mono ?_
          rintro ewm1 wm1 ⟨rfl, hB⟩
          rw [M1.out]
          have Bwm1 := Aside0.mk (below_step Bwm0.out hB)
          have Kwm1 := Aside0.mk (Kwm0.out.below hB)
          have HXwm1 := Aside0.mk (Kd.R_below HXwm0.out hB)
          clear hB
          go_wp2_with (first | ((with_reducible refine gate_dst (N := 23) rfl ?_); (try (refine gate_guard (by rfl) ?_; dsimp only)); refine Kd.event_run rfl (w1 := wm1) (load_mid_exec (lo := 22) (n := 11) rfl Kwm1.out rfl row73 (by rw [HL.out]; omega)) ?_))
          refine (inode_May.calls (chunk is 2) (chunk_len HL.out 2 (by omega)) wm1).mono ?_
          rintro ewm2 wm2 ⟨rfl, hB⟩
          rw [M2.out]
          have Bwm2 := Aside0.mk (below_step Bwm1.out hB)
          have Kwm2 := Aside0.mk (Kwm1.out.below hB)
          have HXwm2 := Aside0.mk (Kd.R_below HXwm1.out hB)
          clear hB
          go_wp2_with (first | ((with_reducible refine gate_dst (N := 28) rfl ?_); (try (refine gate_guard (by rfl) ?_; dsimp only)); refine Kd.event_run rfl (w1 := wm2) (load_mid_exec (lo := 33) (n := 11) rfl Kwm2.out rfl row73 (by rw [HL.out]; omega)) ?_))
          refine (inode_May.calls (chunk is 3) (chunk_len HL.out 3 (by omega)) wm2).mono ?_
          rintro ewm3 wm3 ⟨rfl, hB⟩
          rw [M3.out]
          have Bwm3 := Aside0.mk (below_step Bwm2.out hB)
          have Kwm3 := Aside0.mk (Kwm2.out.below hB)
          have HXwm3 := Aside0.mk (Kd.R_below HXwm2.out hB)
          clear hB
          go_wp2_with fail
          refine (inode_Read.calls _ _ X wm3 (Kd.R_reads' HXwm3.out).2.2 (Kd.R_reads' HXwm3.out).2.1 HXB.out).mono ?_
          rintro e5 w5 ⟨rfl, hB⟩
          rw [HXR.out]
          have B5 := Aside0.mk (below_step Bwm3.out hB)
          have K5 := Aside0.mk (Kwm3.out.below hB)
          have hxl : ((X.length : Int) == 128) = true := (by rw [HXL.out]; rfl)
          clear hB
          go_wp2_with (first | ((with_reducible refine gate_dst (N := 6) rfl ?_); refine box_event ?hg6 (N := 6) ?hd6 (cs := (nums .i64 zero44).toArray) (t := 74) ?hr6 ?_; (case hd6 => rfl); (case hg6 => rfl); (case hr6 => first | (go_simp; done) | (go_simp; rfl)); intro g6 hg w6 hbox hb; have B6 := Aside0.mk (below_step B5.out hb); have K6 := Aside0.mk (show HA w6 g6 74 .i64 zero44 from hbox); have KI6 := Aside0.mk (K5.out.below hb); have G6 := Aside0.mk (show w.heap.size ≤ g6 from by have := B5.out.size; omega); have N16 := Aside0.mk (show some g1 ≠ some g6 from by have := K5.out.lt; intro h; injection h with h; omega); clear hg hbox hb) | ((with_reducible refine gate_store (t := 74) (p := 6) rfl ?_); refine store_row_event (w0 := w) rfl rfl 6 _ rfl (new := is) K6.out rfl rfl (by rw [HL.out]; exact row74) HL.out.symm G6.out B6.out ?_; intro w7 hk hgr hb; have K7 := Aside0.mk (show HA w7 g6 74 .i64 is from hk); have B7 := Aside0.mk hb; have KI7 := Aside0.mk (KI6.out.grown hgr N16.out); clear hk hgr hb) | ((with_reducible refine gate_dst (N := 60) rfl ?_); (try (refine gate_guard (by rfl) ?_; dsimp only)); refine load_row_event rfl _ rfl K7.out rfl (by rw [HL.out]; exact row74) ?_) | ((with_reducible refine gate_dst (N := 61) rfl ?_); (try (refine gate_guard (by rfl) ?_; dsimp only)); refine load_row_event rfl _ rfl KI7.out rfl (by rw [HL.out]; exact row74) ?_) | ((with_reducible refine gate_dst (N := 62) rfl ?_); (try (refine gate_guard (by rfl) ?_; dsimp only)); refine eq_row_event rfl (.tmp 60) (.tmp 61) rfl eqrow74 is is HL.out HL.out true (beq_self_eq_true is) rfl rfl ?_))
          refine (purlinlaw7_awake.calls w7).mono ?_
          rintro e17 w17 ⟨rfl, hD⟩
          have B17 := Aside0.mk (below_step B7.out hD)
          clear hD
          go_wp2
          go_ret
          exact ⟨rfl, B17.out⟩
theorem purlinlaw7_InodeBack.walk (is : List Int) (w : World) (hl : is.length = 44) (hw : ∀ x ∈ is, (Lit.int .i64 x).wf = true) :
    Calls Try.prog 19 #[.agg (nums .i64 is).toArray] w fun e w' => e = .returned (.bool true) ∧ Below w.heap.size w w' := purlinlaw7_InodeBack.calls is hl w
end Go.Proofs.Ytnhpmmmkcemnmaa.Pc
