/- The walk of InodeApart, by hand: it answers true whatever it is given. -/
import Derived.Test.YtnhpmmmkcemnmaaHt
import Derived.Test.YtnhpmmmkcemnmaaQj
import Derived.Test.YtnhpmmmkcemnmaaPcx5
namespace Go.Proofs.Ytnhpmmmkcemnmaa.Pc
open Go.RowKit Go.Proofs.YtnhpmmmkcemnmaaW.PrintWords Go.Proofs.YtnhpmmmkcemnmaaW.PrintLast Go.Proofs.YtnhpmmmkcemnmaaW.PrintMore
set_option linter.unusedVariables false
set_option linter.unusedSimpArgs false

theorem R_C' {w : World} {base : Nat} {ok : Nat → Prop} {A : Option Addr} {n c : Nat} {xs : List Int} (h : Kd.R (Kd.int .u8) 5 w base ok (.slice A n c) xs) : Kd.C (Kd.int .u8) w A xs.length xs ∧ xs.length ≤ c := by
  obtain ⟨hn, hc, hC⟩ := Kd.R_reads' h
  subst hn
  exact ⟨hC, hc⟩
set_option maxHeartbeats 12800000 in
set_option maxRecDepth 100000 in
theorem purlinlaw7_InodeApart.calls (ps qs : List Int) (s0 : Int) (w : World) (hl : ps.length = 44) (hm : qs.length = 44) :
    Calls Try.prog 21 #[.agg (nums .i64 ps).toArray, .agg (nums .i64 qs).toArray, .int .i64 s0] w fun e w' => e = .returned (.bool true) ∧ Below w.heap.size w w' := by
  have HL := Aside0.mk hl
  have HM := Aside0.mk hm
  have HB0 := Aside0.mk (Below.refl w.heap.size w)
  obtain ⟨s, fs, hs0, hs1⟩ := Low_is s0 20736 (by omega) (by omega)
  have FS := Aside0.mk fs
  obtain ⟨n, hn⟩ : ∃ n, n = needZ s := ⟨_, rfl⟩
  obtain ⟨n', hn'⟩ : ∃ n, n = needZ (s + 1) := ⟨_, rfl⟩
  have N1 := Aside0.mk (show inode_Need.f s = some n from by rw [need_is, hn])
  have N2 := Aside0.mk (show inode_Need.f (s + 1) = some n' from by rw [need_is, hn'])
  have N3 := Aside0.mk (show inode_Need.f (-s) = some 0 from by rw [need_is, need_neg _ (by omega)])
  have NM := Aside0.mk (show decide (n' < n) = false from decide_eq_false (by rw [hn, hn']; have := need_mono s hs0 hs1; omega))
  have SW := Aside0.mk (show wrap64 (s + 1) = s + 1 from by unfold wrap64; omega)
  have SN := Aside0.mk (show wrap64 (-s) = -s from by unfold wrap64; omega)
  clear hl hm fs hs0 hs1 hn hn'
  by_cases h1 : okTo ps 4 = true
  · by_cases h2 : okTo qs 4 = true
    · have hinj := layI_inj HL.out HM.out h1 h2
      obtain ⟨X, hX⟩ : ∃ X, X = sealZ 73 (bodyTo ps 4) := ⟨_, rfl⟩
      have HLP := Aside0.mk (show layIZ ps = (X, 0) from by rw [layIZ, if_pos h1, hX])
      have hXL := (show X.length = 128 from by rw [hX]; exact sealI_len HL.out)
      obtain ⟨Z, hZ⟩ : ∃ Z, Z = sealZ 73 (bodyTo qs 4) := ⟨_, rfl⟩
      have HLQ := Aside0.mk (show layIZ qs = (Z, 0) from by rw [layIZ, if_pos h2, hZ])
      rw [← hX, ← hZ] at hinj
      have F50 := same_is X Z (by omega) 400 (by omega)
      rw [hinj] at F50
      clear hX hZ hinj h1 h2 hXL
      cases hsm : (ps == qs) with
      | true =>
        rw [hsm] at F50
        have F5 := Aside0.mk F50
        have HSM := Aside0.mk hsm
        clear F50 hsm
        go_enter Try.func21, Try.ntmps21
        go_wp2_with (first | ((with_reducible refine gate_dst (N := 3) rfl ?_); refine box_event ?hg3 (N := 3) ?hd3 (cs := (nums .i64 ps).toArray) (t := 74) ?hr3 ?_; (case hd3 => rfl); (case hg3 => rfl); (case hr3 => first | (go_simp; done) | (go_simp; rfl)); intro g3 hg w0a hbox hb; have Ba := Aside0.mk (below_step HB0.out hb); have Ka := Aside0.mk (show HA w0a g3 74 .i64 ps from hbox); clear hg hbox hb) | ((with_reducible refine gate_dst (N := 4) rfl ?_); refine box_event ?hg4 (N := 4) ?hd4 (cs := (nums .i64 qs).toArray) (t := 74) ?hr4 ?_; (case hd4 => rfl); (case hg4 => rfl); (case hr4 => first | (go_simp; done) | (go_simp; rfl)); intro g4 hg w0 hbox hb; have B0 := Aside0.mk (below_step Ba.out hb); have K0 := Aside0.mk (show HA w0 g4 74 .i64 qs from hbox); have KP0 := Aside0.mk (Ka.out.below hb); clear hg hbox hb) | ((with_reducible refine gate_dst (N := 12) rfl ?_); (try (refine gate_guard (by rfl) ?_; dsimp only)); refine load_row_event rfl _ rfl KP0.out rfl (by rw [HL.out]; exact row74) ?_))
        refine (inode_Lay.calls ps HL.out w0).mono ?_
        rintro e1 w1 ⟨vx, rfl, hx, hB⟩
        rw [HLP.out] at hx
        rw [HLP.out]
        have HX1 := Aside0.mk (Kd.R_bound hx)
        have B1 := Aside0.mk (below_step B0.out hB)
        have KP1 := Aside0.mk (KP0.out.below hB)
        have KQ1 := Aside0.mk (K0.out.below hB)
        clear hx hB
        go_wp2_with (first | ((with_reducible refine gate_dst (N := 17) rfl ?_); (try (refine gate_guard (by rfl) ?_; dsimp only)); refine load_row_event rfl _ rfl KQ1.out rfl (by rw [HM.out]; exact row74) ?_))
        refine (inode_Lay.calls qs HM.out w1).mono ?_
        rintro e2 w2 ⟨vy, rfl, hy, hB⟩
        rw [HLQ.out] at hy
        rw [HLQ.out]
        have HY2 := Aside0.mk (Kd.R_bound hy)
        have HX2 := Aside0.mk (Kd.R_below HX1.out hB)
        have B2 := Aside0.mk (below_step B1.out hB)
        have KP2 := Aside0.mk (KP1.out.below hB)
        have KQ2 := Aside0.mk (KQ1.out.below hB)
        clear hy hB
        go_wp2_with fail
        refine (purlinlaw0_Low.calls s0 20736 s w2 FS.out).mono ?_
        rintro e3 w3 ⟨rfl, hB⟩
        have B3 := Aside0.mk (below_step B2.out hB)
        have HX3 := Aside0.mk (Kd.R_below HX2.out hB)
        have HY3 := Aside0.mk (Kd.R_below HY2.out hB)
        have KP3 := Aside0.mk (KP2.out.below hB)
        have KQ3 := Aside0.mk (KQ2.out.below hB)
        clear hB
        go_wp2_with fail
        refine (inode_Need.calls s n w3 N1.out).mono ?_
        rintro e4 w4 ⟨rfl, hD⟩
        have B4 := Aside0.mk (below_step B3.out hD.below)
        have HX4 := Aside0.mk (Kd.R_below HX3.out hD.below)
        have HY4 := Aside0.mk (Kd.R_below HY3.out hD.below)
        have KP4 := Aside0.mk (KP3.out.below hD.below)
        have KQ4 := Aside0.mk (KQ3.out.below hD.below)
        clear hD
        have sw := SW.out
        go_wp2_with fail
        rw [sw]
        clear sw
        refine (inode_Need.calls (s + 1) n' w4 N2.out).mono ?_
        rintro e5 w5 ⟨rfl, hD⟩
        have B5 := Aside0.mk (below_step B4.out hD.below)
        have HX5 := Aside0.mk (Kd.R_below HX4.out hD.below)
        have HY5 := Aside0.mk (Kd.R_below HY4.out hD.below)
        have KP5 := Aside0.mk (KP4.out.below hD.below)
        have KQ5 := Aside0.mk (KQ4.out.below hD.below)
        clear hD
        have nm := NM.out
        go_wp2_with fail
        rw [SN.out]
        refine (inode_Need.calls (-s) 0 w5 N3.out).mono ?_
        rintro e6 w6 ⟨rfl, hD⟩
        have B6 := Aside0.mk (below_step B5.out hD.below)
        have HX6 := Aside0.mk (Kd.R_below HX5.out hD.below)
        have HY6 := Aside0.mk (Kd.R_below HY5.out hD.below)
        have KP6 := Aside0.mk (KP5.out.below hD.below)
        have KQ6 := Aside0.mk (KQ5.out.below hD.below)
        clear hD nm
        obtain ⟨Ax, cx, rfl⟩ := Kd.R_slice HX6.out
        obtain ⟨Ay, cy, rfl⟩ := Kd.R_slice HY6.out
        go_wp2
        refine wp_region_noPanic ?_
        refine wp_region_held_drew (S := (fun w' => Below w6.heap.size w6 w')) (by kernel_rfl) ?_ (fun hHeld => ?_)
        · (try dsimp only); exact below_drew (Below.refl _ _)
        refine wpAnyH_take (i := 0) (v := ?_) (by simp only [List.getElem?_toArray, List.getElem?_cons_succ, List.getElem?_cons_zero]; rfl) (by kernel_rfl) (by kernel_rfl) (by kernel_rfl) (fun _ _ _ h => h) (Or.inl ⟨by rfl, ?_⟩) (by assumption) ?_
        rotate_left
        · (intro wS hSw; (try dsimp only at hSw); go_simp; try with_reducible rfl)
        try simp only [Act.put, List.setIfInBounds_toArray, List.set_cons_zero, List.set_cons_succ]
        refine wpAnyH_take (i := 1) (v := ?_) (by simp only [List.getElem?_toArray, List.getElem?_cons_succ, List.getElem?_cons_zero]; rfl) (by kernel_rfl) (by kernel_rfl) (by kernel_rfl) (fun _ _ _ h => h) (Or.inl ⟨by rfl, ?_⟩) (by assumption) ?_
        rotate_left
        · (intro wS hSw; (try dsimp only at hSw); go_simp; try with_reducible rfl)
        try simp only [Act.put, List.setIfInBounds_toArray, List.set_cons_zero, List.set_cons_succ]
        refine wpAnyH_take (i := 2) (v := ?_) (by simp only [List.getElem?_toArray, List.getElem?_cons_succ, List.getElem?_cons_zero]; rfl) (by kernel_rfl) (by kernel_rfl) (by kernel_rfl) (fun _ _ _ h => h) (Or.inl ⟨by rfl, ?_⟩) (by assumption) ?_
        rotate_left
        · (intro wS hSw; (try dsimp only at hSw); go_simp; try with_reducible rfl)
        try simp only [Act.put, List.setIfInBounds_toArray, List.set_cons_zero, List.set_cons_succ]
        refine wpAnyH_take (i := 3) (v := ?_) (by simp only [List.getElem?_toArray, List.getElem?_cons_succ, List.getElem?_cons_zero]; rfl) (by kernel_rfl) (by kernel_rfl) (by kernel_rfl) (fun _ _ _ h => h) (Or.inl ⟨by rfl, ?_⟩) (by assumption) ?_
        rotate_left
        · (intro wS hSw; (try dsimp only at hSw); go_simp; try with_reducible rfl)
        try simp only [Act.put, List.setIfInBounds_toArray, List.set_cons_zero, List.set_cons_succ]
        refine wpAnyH_take (i := 4) (v := ?_) (by simp only [List.getElem?_toArray, List.getElem?_cons_succ, List.getElem?_cons_zero]; rfl) (by kernel_rfl) (by kernel_rfl) (by kernel_rfl) (fun _ _ _ h => h) (Or.inl ⟨by rfl, ?_⟩) (by assumption) ?_
        rotate_left
        · (intro wS hSw; (try dsimp only at hSw); go_simp; try with_reducible rfl)
        try simp only [Act.put, List.setIfInBounds_toArray, List.set_cons_zero, List.set_cons_succ]
        refine wpAnyH_take (i := 5) (v := ?_) (by simp only [List.getElem?_toArray, List.getElem?_cons_succ, List.getElem?_cons_zero]; rfl) (by kernel_rfl) (by kernel_rfl) (by kernel_rfl) (fun _ _ _ h => h) (Or.inl ⟨by rfl, ?_⟩) (by assumption) ?_
        rotate_left
        · (intro wS hSw; (try dsimp only at hSw); go_simp; try with_reducible rfl)
        try simp only [Act.put, List.setIfInBounds_toArray, List.set_cons_zero, List.set_cons_succ]
        refine wpAnyH_take (i := 6) (v := ?_) (by simp only [List.getElem?_toArray, List.getElem?_cons_succ, List.getElem?_cons_zero]; rfl) (by kernel_rfl) (by kernel_rfl) (by kernel_rfl) (fun _ _ _ h => h) (Or.inl ⟨by rfl, ?_⟩) (by assumption) ?_
        rotate_left
        · (intro wS hSw; (try dsimp only at hSw); go_simp; try with_reducible rfl)
        try simp only [Act.put, List.setIfInBounds_toArray, List.set_cons_zero, List.set_cons_succ]
        refine wpAnyH_take (i := 7) (v := ?_) (by simp only [List.getElem?_toArray, List.getElem?_cons_succ, List.getElem?_cons_zero]; rfl) (by kernel_rfl) (by kernel_rfl) (by kernel_rfl) (fun _ _ _ h => h) (Or.inl ⟨by rfl, ?_⟩) (by assumption) ?_
        rotate_left
        · (intro wS hSw; (try dsimp only at hSw); go_simp; try with_reducible rfl)
        try simp only [Act.put, List.setIfInBounds_toArray, List.set_cons_zero, List.set_cons_succ]
        refine wpAnyH_take (i := 8) (v := ?_) (by simp only [List.getElem?_toArray, List.getElem?_cons_succ, List.getElem?_cons_zero]; rfl) (by kernel_rfl) (by kernel_rfl) (by kernel_rfl) (fun _ _ _ h => h) (Or.inl ⟨by rfl, ?_⟩) (by assumption) ?_
        rotate_left
        · (intro wS hSw; (try dsimp only at hSw); go_simp; try with_reducible rfl)
        try simp only [Act.put, List.setIfInBounds_toArray, List.set_cons_zero, List.set_cons_succ]
        refine wpAnyH_take (i := 10) (v := .agg (nums .i64 ps).toArray) (by simp only [List.getElem?_toArray, List.getElem?_cons_succ, List.getElem?_cons_zero]; rfl) (by kernel_rfl) (by kernel_rfl) (by kernel_rfl) (fun _ _ _ h => h) (Or.inl ⟨by rfl, ?_⟩) (by assumption) ?_
        · (intro wS hSw; (try dsimp only at hSw); exact load_row_exec (by rfl) (KP6.out.below hSw) (by rfl) (by rw [HL.out]; exact row74))
        try simp only [Act.put, List.setIfInBounds_toArray, List.set_cons_zero, List.set_cons_succ]
        refine wpAnyH_take (i := 11) (v := .agg (nums .i64 qs).toArray) (by simp only [List.getElem?_toArray, List.getElem?_cons_succ, List.getElem?_cons_zero]; rfl) (by kernel_rfl) (by kernel_rfl) (by kernel_rfl) (fun _ _ _ h => h) (Or.inl ⟨by rfl, ?_⟩) (by assumption) ?_
        · (intro wS hSw; (try dsimp only at hSw); exact load_row_exec (by rfl) (KQ6.out.below hSw) (by rfl) (by rw [HM.out]; exact row74))
        try simp only [Act.put, List.setIfInBounds_toArray, List.set_cons_zero, List.set_cons_succ]
        refine wpAnyH_take (i := 12) (v := .bool true) (by simp only [List.getElem?_toArray, List.getElem?_cons_succ, List.getElem?_cons_zero]; rfl) (by kernel_rfl) (by kernel_rfl) (by kernel_rfl) (fun _ _ _ h => h) (Or.inl ⟨by rfl, ?_⟩) (by assumption) ?_
        · (intro wS hSw; (try dsimp only at hSw); exact eq_row_exec (by rfl) eqrow74 ps qs HL.out HM.out true HSM.out (by rfl) (by rfl))
        try simp only [Act.put, List.setIfInBounds_toArray, List.set_cons_zero, List.set_cons_succ]
        refine wpAnyH_ready (rs := [9]) (by kernel_rfl) (by simp) ?_
        refine AllReadyH.cons (by simp only [List.getElem?_toArray, List.getElem?_cons_succ, List.getElem?_cons_zero]; rfl) (fun K hK => ?_) AllReadyH.nil
        go_simp
        refine (purlinlaw0_SameBytes.calls 400 _ _ X _ _ Z true _ (Kd.C_below (R_C' HX6.out).1 (below_drew (Below.refl _ _))) (R_C' HX6.out).2 (Kd.C_below (R_C' HY6.out).1 (below_drew (Below.refl _ _))) (R_C' HY6.out).2 F5.out).mono ?_
        rintro e9 w9 ⟨rfl, hD⟩
        have B9 := Aside0.mk (below_step (below_drew (Below.refl w6.heap.size w6)) hD.below)
        clear hD
        go_wp2_with fail
        refine hK.out _ _ ?_ (fun hHeld => ?_)
        · (try dsimp only); exact B9.out
        clear hK K
        try simp only [Act.put, List.setIfInBounds_toArray, List.set_cons_zero, List.set_cons_succ]
        refine wpAnyH_take (i := 13) (v := ?_) (by simp only [List.getElem?_toArray, List.getElem?_cons_succ, List.getElem?_cons_zero]; rfl) (by kernel_rfl) (by kernel_rfl) (by kernel_rfl) (fun _ _ _ h => h) (Or.inl ⟨by rfl, ?_⟩) (by assumption) ?_
        rotate_left
        · (intro wS hSw; (try dsimp only at hSw); go_simp; try with_reducible rfl)
        try simp only [Act.put, List.setIfInBounds_toArray, List.set_cons_zero, List.set_cons_succ]
        refine wpAnyH_take (i := 14) (v := ?_) (by simp only [List.getElem?_toArray, List.getElem?_cons_succ, List.getElem?_cons_zero]; rfl) (by kernel_rfl) (by kernel_rfl) (by kernel_rfl) (fun _ _ _ h => h) (Or.inl ⟨by rfl, ?_⟩) (by assumption) ?_
        rotate_left
        · (intro wS hSw; (try dsimp only at hSw); go_simp; try with_reducible rfl)
        try simp only [Act.put, List.setIfInBounds_toArray, List.set_cons_zero, List.set_cons_succ]
        refine wpAnyH_take (i := 15) (v := ?_) (by simp only [List.getElem?_toArray, List.getElem?_cons_succ, List.getElem?_cons_zero]; rfl) (by kernel_rfl) (by kernel_rfl) (by kernel_rfl) (fun _ _ _ h => h) (Or.inl ⟨by rfl, ?_⟩) (by assumption) ?_
        rotate_left
        · (intro wS hSw; (try dsimp only at hSw); go_simp; try with_reducible rfl)
        try simp only [Act.put, List.setIfInBounds_toArray, List.set_cons_zero, List.set_cons_succ]
        refine wpAnyH_ready (rs := [16]) (by kernel_rfl) (by simp) ?_
        refine AllReadyH.cons (by simp only [List.getElem?_toArray, List.getElem?_cons_succ, List.getElem?_cons_zero]; rfl) (fun K hK => ?_) AllReadyH.nil
        go_simp
        refine (purlinlaw7_awake.calls _).mono ?_
        rintro e10 w10 ⟨rfl, hB⟩
        have B10 := Aside0.mk (below_step hHeld hB)
        clear hB
        go_wp2_with fail
        refine hK.out _ _ ?_ (fun hHeld => ?_)
        · (try dsimp only); exact B10.out
        clear hK K
        try simp only [Act.put, List.setIfInBounds_toArray, List.set_cons_zero, List.set_cons_succ]
        refine wpAnyH_take (i := 17) (v := ?_) (by simp only [List.getElem?_toArray, List.getElem?_cons_succ, List.getElem?_cons_zero]; rfl) (by kernel_rfl) (by kernel_rfl) (by kernel_rfl) (fun _ _ _ h => h) (Or.inl ⟨by rfl, ?_⟩) (by assumption) ?_
        rotate_left
        · (intro wS hSw; (try dsimp only at hSw); go_simp; try with_reducible rfl)
        try simp only [Act.put, List.setIfInBounds_toArray, List.set_cons_zero, List.set_cons_succ]
        refine wpAnyH_take (i := 18) (v := ?_) (by simp only [List.getElem?_toArray, List.getElem?_cons_succ, List.getElem?_cons_zero]; rfl) (by kernel_rfl) (by kernel_rfl) (by kernel_rfl) (fun _ _ _ h => h) (Or.inl ⟨by rfl, ?_⟩) (by assumption) ?_
        rotate_left
        · (intro wS hSw; (try dsimp only at hSw); go_simp; try with_reducible rfl)
        try simp only [Act.put, List.setIfInBounds_toArray, List.set_cons_zero, List.set_cons_succ]
        refine wpAnyH_done (by kernel_rfl) ?_ _
        refine NoPanic.normal ?_
        go_wp2
        go_ret
        exact ⟨rfl, below_step B6.out hHeld⟩
      | false =>
        rw [hsm] at F50
        have F5 := Aside0.mk F50
        have HSM := Aside0.mk hsm
        clear F50 hsm
        go_enter Try.func21, Try.ntmps21
        go_wp2_with (first | ((with_reducible refine gate_dst (N := 3) rfl ?_); refine box_event ?hg3 (N := 3) ?hd3 (cs := (nums .i64 ps).toArray) (t := 74) ?hr3 ?_; (case hd3 => rfl); (case hg3 => rfl); (case hr3 => first | (go_simp; done) | (go_simp; rfl)); intro g3 hg w0a hbox hb; have Ba := Aside0.mk (below_step HB0.out hb); have Ka := Aside0.mk (show HA w0a g3 74 .i64 ps from hbox); clear hg hbox hb) | ((with_reducible refine gate_dst (N := 4) rfl ?_); refine box_event ?hg4 (N := 4) ?hd4 (cs := (nums .i64 qs).toArray) (t := 74) ?hr4 ?_; (case hd4 => rfl); (case hg4 => rfl); (case hr4 => first | (go_simp; done) | (go_simp; rfl)); intro g4 hg w0 hbox hb; have B0 := Aside0.mk (below_step Ba.out hb); have K0 := Aside0.mk (show HA w0 g4 74 .i64 qs from hbox); have KP0 := Aside0.mk (Ka.out.below hb); clear hg hbox hb) | ((with_reducible refine gate_dst (N := 12) rfl ?_); (try (refine gate_guard (by rfl) ?_; dsimp only)); refine load_row_event rfl _ rfl KP0.out rfl (by rw [HL.out]; exact row74) ?_))
        refine (inode_Lay.calls ps HL.out w0).mono ?_
        rintro e1 w1 ⟨vx, rfl, hx, hB⟩
        rw [HLP.out] at hx
        rw [HLP.out]
        have HX1 := Aside0.mk (Kd.R_bound hx)
        have B1 := Aside0.mk (below_step B0.out hB)
        have KP1 := Aside0.mk (KP0.out.below hB)
        have KQ1 := Aside0.mk (K0.out.below hB)
        clear hx hB
        go_wp2_with (first | ((with_reducible refine gate_dst (N := 17) rfl ?_); (try (refine gate_guard (by rfl) ?_; dsimp only)); refine load_row_event rfl _ rfl KQ1.out rfl (by rw [HM.out]; exact row74) ?_))
        refine (inode_Lay.calls qs HM.out w1).mono ?_
        rintro e2 w2 ⟨vy, rfl, hy, hB⟩
        rw [HLQ.out] at hy
        rw [HLQ.out]
        have HY2 := Aside0.mk (Kd.R_bound hy)
        have HX2 := Aside0.mk (Kd.R_below HX1.out hB)
        have B2 := Aside0.mk (below_step B1.out hB)
        have KP2 := Aside0.mk (KP1.out.below hB)
        have KQ2 := Aside0.mk (KQ1.out.below hB)
        clear hy hB
        go_wp2_with fail
        refine (purlinlaw0_Low.calls s0 20736 s w2 FS.out).mono ?_
        rintro e3 w3 ⟨rfl, hB⟩
        have B3 := Aside0.mk (below_step B2.out hB)
        have HX3 := Aside0.mk (Kd.R_below HX2.out hB)
        have HY3 := Aside0.mk (Kd.R_below HY2.out hB)
        have KP3 := Aside0.mk (KP2.out.below hB)
        have KQ3 := Aside0.mk (KQ2.out.below hB)
        clear hB
        go_wp2_with fail
        refine (inode_Need.calls s n w3 N1.out).mono ?_
        rintro e4 w4 ⟨rfl, hD⟩
        have B4 := Aside0.mk (below_step B3.out hD.below)
        have HX4 := Aside0.mk (Kd.R_below HX3.out hD.below)
        have HY4 := Aside0.mk (Kd.R_below HY3.out hD.below)
        have KP4 := Aside0.mk (KP3.out.below hD.below)
        have KQ4 := Aside0.mk (KQ3.out.below hD.below)
        clear hD
        have sw := SW.out
        go_wp2_with fail
        rw [sw]
        clear sw
        refine (inode_Need.calls (s + 1) n' w4 N2.out).mono ?_
        rintro e5 w5 ⟨rfl, hD⟩
        have B5 := Aside0.mk (below_step B4.out hD.below)
        have HX5 := Aside0.mk (Kd.R_below HX4.out hD.below)
        have HY5 := Aside0.mk (Kd.R_below HY4.out hD.below)
        have KP5 := Aside0.mk (KP4.out.below hD.below)
        have KQ5 := Aside0.mk (KQ4.out.below hD.below)
        clear hD
        have nm := NM.out
        go_wp2_with fail
        rw [SN.out]
        refine (inode_Need.calls (-s) 0 w5 N3.out).mono ?_
        rintro e6 w6 ⟨rfl, hD⟩
        have B6 := Aside0.mk (below_step B5.out hD.below)
        have HX6 := Aside0.mk (Kd.R_below HX5.out hD.below)
        have HY6 := Aside0.mk (Kd.R_below HY5.out hD.below)
        have KP6 := Aside0.mk (KP5.out.below hD.below)
        have KQ6 := Aside0.mk (KQ5.out.below hD.below)
        clear hD nm
        obtain ⟨Ax, cx, rfl⟩ := Kd.R_slice HX6.out
        obtain ⟨Ay, cy, rfl⟩ := Kd.R_slice HY6.out
        go_wp2
        refine wp_region_noPanic ?_
        refine wp_region_held_drew (S := (fun w' => Below w6.heap.size w6 w')) (by kernel_rfl) ?_ (fun hHeld => ?_)
        · (try dsimp only); exact below_drew (Below.refl _ _)
        refine wpAnyH_take (i := 0) (v := ?_) (by simp only [List.getElem?_toArray, List.getElem?_cons_succ, List.getElem?_cons_zero]; rfl) (by kernel_rfl) (by kernel_rfl) (by kernel_rfl) (fun _ _ _ h => h) (Or.inl ⟨by rfl, ?_⟩) (by assumption) ?_
        rotate_left
        · (intro wS hSw; (try dsimp only at hSw); go_simp; try with_reducible rfl)
        try simp only [Act.put, List.setIfInBounds_toArray, List.set_cons_zero, List.set_cons_succ]
        refine wpAnyH_take (i := 1) (v := ?_) (by simp only [List.getElem?_toArray, List.getElem?_cons_succ, List.getElem?_cons_zero]; rfl) (by kernel_rfl) (by kernel_rfl) (by kernel_rfl) (fun _ _ _ h => h) (Or.inl ⟨by rfl, ?_⟩) (by assumption) ?_
        rotate_left
        · (intro wS hSw; (try dsimp only at hSw); go_simp; try with_reducible rfl)
        try simp only [Act.put, List.setIfInBounds_toArray, List.set_cons_zero, List.set_cons_succ]
        refine wpAnyH_take (i := 2) (v := ?_) (by simp only [List.getElem?_toArray, List.getElem?_cons_succ, List.getElem?_cons_zero]; rfl) (by kernel_rfl) (by kernel_rfl) (by kernel_rfl) (fun _ _ _ h => h) (Or.inl ⟨by rfl, ?_⟩) (by assumption) ?_
        rotate_left
        · (intro wS hSw; (try dsimp only at hSw); go_simp; try with_reducible rfl)
        try simp only [Act.put, List.setIfInBounds_toArray, List.set_cons_zero, List.set_cons_succ]
        refine wpAnyH_take (i := 3) (v := ?_) (by simp only [List.getElem?_toArray, List.getElem?_cons_succ, List.getElem?_cons_zero]; rfl) (by kernel_rfl) (by kernel_rfl) (by kernel_rfl) (fun _ _ _ h => h) (Or.inl ⟨by rfl, ?_⟩) (by assumption) ?_
        rotate_left
        · (intro wS hSw; (try dsimp only at hSw); go_simp; try with_reducible rfl)
        try simp only [Act.put, List.setIfInBounds_toArray, List.set_cons_zero, List.set_cons_succ]
        refine wpAnyH_take (i := 4) (v := ?_) (by simp only [List.getElem?_toArray, List.getElem?_cons_succ, List.getElem?_cons_zero]; rfl) (by kernel_rfl) (by kernel_rfl) (by kernel_rfl) (fun _ _ _ h => h) (Or.inl ⟨by rfl, ?_⟩) (by assumption) ?_
        rotate_left
        · (intro wS hSw; (try dsimp only at hSw); go_simp; try with_reducible rfl)
        try simp only [Act.put, List.setIfInBounds_toArray, List.set_cons_zero, List.set_cons_succ]
        refine wpAnyH_take (i := 5) (v := ?_) (by simp only [List.getElem?_toArray, List.getElem?_cons_succ, List.getElem?_cons_zero]; rfl) (by kernel_rfl) (by kernel_rfl) (by kernel_rfl) (fun _ _ _ h => h) (Or.inl ⟨by rfl, ?_⟩) (by assumption) ?_
        rotate_left
        · (intro wS hSw; (try dsimp only at hSw); go_simp; try with_reducible rfl)
        try simp only [Act.put, List.setIfInBounds_toArray, List.set_cons_zero, List.set_cons_succ]
        refine wpAnyH_take (i := 6) (v := ?_) (by simp only [List.getElem?_toArray, List.getElem?_cons_succ, List.getElem?_cons_zero]; rfl) (by kernel_rfl) (by kernel_rfl) (by kernel_rfl) (fun _ _ _ h => h) (Or.inl ⟨by rfl, ?_⟩) (by assumption) ?_
        rotate_left
        · (intro wS hSw; (try dsimp only at hSw); go_simp; try with_reducible rfl)
        try simp only [Act.put, List.setIfInBounds_toArray, List.set_cons_zero, List.set_cons_succ]
        refine wpAnyH_take (i := 7) (v := ?_) (by simp only [List.getElem?_toArray, List.getElem?_cons_succ, List.getElem?_cons_zero]; rfl) (by kernel_rfl) (by kernel_rfl) (by kernel_rfl) (fun _ _ _ h => h) (Or.inl ⟨by rfl, ?_⟩) (by assumption) ?_
        rotate_left
        · (intro wS hSw; (try dsimp only at hSw); go_simp; try with_reducible rfl)
        try simp only [Act.put, List.setIfInBounds_toArray, List.set_cons_zero, List.set_cons_succ]
        refine wpAnyH_take (i := 8) (v := ?_) (by simp only [List.getElem?_toArray, List.getElem?_cons_succ, List.getElem?_cons_zero]; rfl) (by kernel_rfl) (by kernel_rfl) (by kernel_rfl) (fun _ _ _ h => h) (Or.inl ⟨by rfl, ?_⟩) (by assumption) ?_
        rotate_left
        · (intro wS hSw; (try dsimp only at hSw); go_simp; try with_reducible rfl)
        try simp only [Act.put, List.setIfInBounds_toArray, List.set_cons_zero, List.set_cons_succ]
        refine wpAnyH_take (i := 10) (v := .agg (nums .i64 ps).toArray) (by simp only [List.getElem?_toArray, List.getElem?_cons_succ, List.getElem?_cons_zero]; rfl) (by kernel_rfl) (by kernel_rfl) (by kernel_rfl) (fun _ _ _ h => h) (Or.inl ⟨by rfl, ?_⟩) (by assumption) ?_
        · (intro wS hSw; (try dsimp only at hSw); exact load_row_exec (by rfl) (KP6.out.below hSw) (by rfl) (by rw [HL.out]; exact row74))
        try simp only [Act.put, List.setIfInBounds_toArray, List.set_cons_zero, List.set_cons_succ]
        refine wpAnyH_take (i := 11) (v := .agg (nums .i64 qs).toArray) (by simp only [List.getElem?_toArray, List.getElem?_cons_succ, List.getElem?_cons_zero]; rfl) (by kernel_rfl) (by kernel_rfl) (by kernel_rfl) (fun _ _ _ h => h) (Or.inl ⟨by rfl, ?_⟩) (by assumption) ?_
        · (intro wS hSw; (try dsimp only at hSw); exact load_row_exec (by rfl) (KQ6.out.below hSw) (by rfl) (by rw [HM.out]; exact row74))
        try simp only [Act.put, List.setIfInBounds_toArray, List.set_cons_zero, List.set_cons_succ]
        refine wpAnyH_take (i := 12) (v := .bool false) (by simp only [List.getElem?_toArray, List.getElem?_cons_succ, List.getElem?_cons_zero]; rfl) (by kernel_rfl) (by kernel_rfl) (by kernel_rfl) (fun _ _ _ h => h) (Or.inl ⟨by rfl, ?_⟩) (by assumption) ?_
        · (intro wS hSw; (try dsimp only at hSw); exact eq_row_exec (by rfl) eqrow74 ps qs HL.out HM.out false HSM.out (by rfl) (by rfl))
        try simp only [Act.put, List.setIfInBounds_toArray, List.set_cons_zero, List.set_cons_succ]
        refine wpAnyH_ready (rs := [9]) (by kernel_rfl) (by simp) ?_
        refine AllReadyH.cons (by simp only [List.getElem?_toArray, List.getElem?_cons_succ, List.getElem?_cons_zero]; rfl) (fun K hK => ?_) AllReadyH.nil
        go_simp
        refine (purlinlaw0_SameBytes.calls 400 _ _ X _ _ Z false _ (Kd.C_below (R_C' HX6.out).1 (below_drew (Below.refl _ _))) (R_C' HX6.out).2 (Kd.C_below (R_C' HY6.out).1 (below_drew (Below.refl _ _))) (R_C' HY6.out).2 F5.out).mono ?_
        rintro e9 w9 ⟨rfl, hD⟩
        have B9 := Aside0.mk (below_step (below_drew (Below.refl w6.heap.size w6)) hD.below)
        clear hD
        go_wp2_with fail
        refine hK.out _ _ ?_ (fun hHeld => ?_)
        · (try dsimp only); exact B9.out
        clear hK K
        try simp only [Act.put, List.setIfInBounds_toArray, List.set_cons_zero, List.set_cons_succ]
        refine wpAnyH_take (i := 13) (v := ?_) (by simp only [List.getElem?_toArray, List.getElem?_cons_succ, List.getElem?_cons_zero]; rfl) (by kernel_rfl) (by kernel_rfl) (by kernel_rfl) (fun _ _ _ h => h) (Or.inl ⟨by rfl, ?_⟩) (by assumption) ?_
        rotate_left
        · (intro wS hSw; (try dsimp only at hSw); go_simp; try with_reducible rfl)
        try simp only [Act.put, List.setIfInBounds_toArray, List.set_cons_zero, List.set_cons_succ]
        refine wpAnyH_take (i := 14) (v := ?_) (by simp only [List.getElem?_toArray, List.getElem?_cons_succ, List.getElem?_cons_zero]; rfl) (by kernel_rfl) (by kernel_rfl) (by kernel_rfl) (fun _ _ _ h => h) (Or.inl ⟨by rfl, ?_⟩) (by assumption) ?_
        rotate_left
        · (intro wS hSw; (try dsimp only at hSw); go_simp; try with_reducible rfl)
        try simp only [Act.put, List.setIfInBounds_toArray, List.set_cons_zero, List.set_cons_succ]
        refine wpAnyH_take (i := 15) (v := ?_) (by simp only [List.getElem?_toArray, List.getElem?_cons_succ, List.getElem?_cons_zero]; rfl) (by kernel_rfl) (by kernel_rfl) (by kernel_rfl) (fun _ _ _ h => h) (Or.inl ⟨by rfl, ?_⟩) (by assumption) ?_
        rotate_left
        · (intro wS hSw; (try dsimp only at hSw); go_simp; try with_reducible rfl)
        try simp only [Act.put, List.setIfInBounds_toArray, List.set_cons_zero, List.set_cons_succ]
        refine wpAnyH_ready (rs := [16]) (by kernel_rfl) (by simp) ?_
        refine AllReadyH.cons (by simp only [List.getElem?_toArray, List.getElem?_cons_succ, List.getElem?_cons_zero]; rfl) (fun K hK => ?_) AllReadyH.nil
        go_simp
        refine (purlinlaw7_awake.calls _).mono ?_
        rintro e10 w10 ⟨rfl, hB⟩
        have B10 := Aside0.mk (below_step hHeld hB)
        clear hB
        go_wp2_with fail
        refine hK.out _ _ ?_ (fun hHeld => ?_)
        · (try dsimp only); exact B10.out
        clear hK K
        try simp only [Act.put, List.setIfInBounds_toArray, List.set_cons_zero, List.set_cons_succ]
        refine wpAnyH_take (i := 17) (v := ?_) (by simp only [List.getElem?_toArray, List.getElem?_cons_succ, List.getElem?_cons_zero]; rfl) (by kernel_rfl) (by kernel_rfl) (by kernel_rfl) (fun _ _ _ h => h) (Or.inl ⟨by rfl, ?_⟩) (by assumption) ?_
        rotate_left
        · (intro wS hSw; (try dsimp only at hSw); go_simp; try with_reducible rfl)
        try simp only [Act.put, List.setIfInBounds_toArray, List.set_cons_zero, List.set_cons_succ]
        refine wpAnyH_take (i := 18) (v := ?_) (by simp only [List.getElem?_toArray, List.getElem?_cons_succ, List.getElem?_cons_zero]; rfl) (by kernel_rfl) (by kernel_rfl) (by kernel_rfl) (fun _ _ _ h => h) (Or.inl ⟨by rfl, ?_⟩) (by assumption) ?_
        rotate_left
        · (intro wS hSw; (try dsimp only at hSw); go_simp; try with_reducible rfl)
        try simp only [Act.put, List.setIfInBounds_toArray, List.set_cons_zero, List.set_cons_succ]
        refine wpAnyH_done (by kernel_rfl) ?_ _
        refine NoPanic.normal ?_
        go_wp2
        go_ret
        exact ⟨rfl, below_step B6.out hHeld⟩
    · have HLP := Aside0.mk (show layIZ ps = (sealZ 73 (bodyTo ps 4), 0) from by rw [layIZ, if_pos h1])
      have HLQ := Aside0.mk (show layIZ qs = ([], 2) from by rw [layIZ, if_neg h2])
      clear h1 h2
      go_enter Try.func21, Try.ntmps21
      go_wp2_with (first | ((with_reducible refine gate_dst (N := 3) rfl ?_); refine box_event ?hg3 (N := 3) ?hd3 (cs := (nums .i64 ps).toArray) (t := 74) ?hr3 ?_; (case hd3 => rfl); (case hg3 => rfl); (case hr3 => first | (go_simp; done) | (go_simp; rfl)); intro g3 hg w0a hbox hb; have Ba := Aside0.mk (below_step HB0.out hb); have Ka := Aside0.mk (show HA w0a g3 74 .i64 ps from hbox); clear hg hbox hb) | ((with_reducible refine gate_dst (N := 4) rfl ?_); refine box_event ?hg4 (N := 4) ?hd4 (cs := (nums .i64 qs).toArray) (t := 74) ?hr4 ?_; (case hd4 => rfl); (case hg4 => rfl); (case hr4 => first | (go_simp; done) | (go_simp; rfl)); intro g4 hg w0 hbox hb; have B0 := Aside0.mk (below_step Ba.out hb); have K0 := Aside0.mk (show HA w0 g4 74 .i64 qs from hbox); have KP0 := Aside0.mk (Ka.out.below hb); clear hg hbox hb) | ((with_reducible refine gate_dst (N := 12) rfl ?_); (try (refine gate_guard (by rfl) ?_; dsimp only)); refine load_row_event rfl _ rfl KP0.out rfl (by rw [HL.out]; exact row74) ?_))
      refine (inode_Lay.calls ps HL.out w0).mono ?_
      rintro e1 w1 ⟨vx, rfl, hx, hB⟩
      rw [HLP.out] at hx
      rw [HLP.out]
      have HX1 := Aside0.mk (Kd.R_bound hx)
      have B1 := Aside0.mk (below_step B0.out hB)
      have KP1 := Aside0.mk (KP0.out.below hB)
      have KQ1 := Aside0.mk (K0.out.below hB)
      clear hx hB
      go_wp2_with (first | ((with_reducible refine gate_dst (N := 17) rfl ?_); (try (refine gate_guard (by rfl) ?_; dsimp only)); refine load_row_event rfl _ rfl KQ1.out rfl (by rw [HM.out]; exact row74) ?_))
      refine (inode_Lay.calls qs HM.out w1).mono ?_
      rintro e2 w2 ⟨vy, rfl, hy, hB⟩
      rw [HLQ.out] at hy
      rw [HLQ.out]
      have HY2 := Aside0.mk (Kd.R_bound hy)
      have HX2 := Aside0.mk (Kd.R_below HX1.out hB)
      have B2 := Aside0.mk (below_step B1.out hB)
      have KP2 := Aside0.mk (KP1.out.below hB)
      have KQ2 := Aside0.mk (KQ1.out.below hB)
      clear hy hB
      go_wp2_with fail
      refine (purlinlaw0_Low.calls s0 20736 s w2 FS.out).mono ?_
      rintro e3 w3 ⟨rfl, hB⟩
      have B3 := Aside0.mk (below_step B2.out hB)
      have HX3 := Aside0.mk (Kd.R_below HX2.out hB)
      have HY3 := Aside0.mk (Kd.R_below HY2.out hB)
      have KP3 := Aside0.mk (KP2.out.below hB)
      have KQ3 := Aside0.mk (KQ2.out.below hB)
      clear hB
      go_wp2_with fail
      refine (inode_Need.calls s n w3 N1.out).mono ?_
      rintro e4 w4 ⟨rfl, hD⟩
      have B4 := Aside0.mk (below_step B3.out hD.below)
      have HX4 := Aside0.mk (Kd.R_below HX3.out hD.below)
      have HY4 := Aside0.mk (Kd.R_below HY3.out hD.below)
      have KP4 := Aside0.mk (KP3.out.below hD.below)
      have KQ4 := Aside0.mk (KQ3.out.below hD.below)
      clear hD
      have sw := SW.out
      go_wp2_with fail
      rw [sw]
      clear sw
      refine (inode_Need.calls (s + 1) n' w4 N2.out).mono ?_
      rintro e5 w5 ⟨rfl, hD⟩
      have B5 := Aside0.mk (below_step B4.out hD.below)
      have HX5 := Aside0.mk (Kd.R_below HX4.out hD.below)
      have HY5 := Aside0.mk (Kd.R_below HY4.out hD.below)
      have KP5 := Aside0.mk (KP4.out.below hD.below)
      have KQ5 := Aside0.mk (KQ4.out.below hD.below)
      clear hD
      have nm := NM.out
      go_wp2_with fail
      rw [SN.out]
      refine (inode_Need.calls (-s) 0 w5 N3.out).mono ?_
      rintro e6 w6 ⟨rfl, hD⟩
      have B6 := Aside0.mk (below_step B5.out hD.below)
      have HX6 := Aside0.mk (Kd.R_below HX5.out hD.below)
      have HY6 := Aside0.mk (Kd.R_below HY5.out hD.below)
      have KP6 := Aside0.mk (KP5.out.below hD.below)
      have KQ6 := Aside0.mk (KQ5.out.below hD.below)
      clear hD nm
      obtain ⟨Ax, cx, rfl⟩ := Kd.R_slice HX6.out
      obtain ⟨Ay, cy, rfl⟩ := Kd.R_slice HY6.out
      go_wp2
      refine wp_region_noPanic ?_
      refine wp_region_held_drew (S := (fun w' => Below w6.heap.size w6 w')) (by kernel_rfl) ?_ (fun hHeld => ?_)
      · (try dsimp only); exact below_drew (Below.refl _ _)
      refine wpAnyH_take (i := 0) (v := ?_) (by simp only [List.getElem?_toArray, List.getElem?_cons_succ, List.getElem?_cons_zero]; rfl) (by kernel_rfl) (by kernel_rfl) (by kernel_rfl) (fun _ _ _ h => h) (Or.inl ⟨by rfl, ?_⟩) (by assumption) ?_
      rotate_left
      · (intro wS hSw; (try dsimp only at hSw); go_simp; try with_reducible rfl)
      try simp only [Act.put, List.setIfInBounds_toArray, List.set_cons_zero, List.set_cons_succ]
      refine wpAnyH_take (i := 1) (v := ?_) (by simp only [List.getElem?_toArray, List.getElem?_cons_succ, List.getElem?_cons_zero]; rfl) (by kernel_rfl) (by kernel_rfl) (by kernel_rfl) (fun _ _ _ h => h) (Or.inl ⟨by rfl, ?_⟩) (by assumption) ?_
      rotate_left
      · (intro wS hSw; (try dsimp only at hSw); go_simp; try with_reducible rfl)
      try simp only [Act.put, List.setIfInBounds_toArray, List.set_cons_zero, List.set_cons_succ]
      refine wpAnyH_take (i := 2) (v := ?_) (by simp only [List.getElem?_toArray, List.getElem?_cons_succ, List.getElem?_cons_zero]; rfl) (by kernel_rfl) (by kernel_rfl) (by kernel_rfl) (fun _ _ _ h => h) (Or.inl ⟨by rfl, ?_⟩) (by assumption) ?_
      rotate_left
      · (intro wS hSw; (try dsimp only at hSw); go_simp; try with_reducible rfl)
      try simp only [Act.put, List.setIfInBounds_toArray, List.set_cons_zero, List.set_cons_succ]
      refine wpAnyH_take (i := 3) (v := ?_) (by simp only [List.getElem?_toArray, List.getElem?_cons_succ, List.getElem?_cons_zero]; rfl) (by kernel_rfl) (by kernel_rfl) (by kernel_rfl) (fun _ _ _ h => h) (Or.inl ⟨by rfl, ?_⟩) (by assumption) ?_
      rotate_left
      · (intro wS hSw; (try dsimp only at hSw); go_simp; try with_reducible rfl)
      try simp only [Act.put, List.setIfInBounds_toArray, List.set_cons_zero, List.set_cons_succ]
      refine wpAnyH_take (i := 4) (v := ?_) (by simp only [List.getElem?_toArray, List.getElem?_cons_succ, List.getElem?_cons_zero]; rfl) (by kernel_rfl) (by kernel_rfl) (by kernel_rfl) (fun _ _ _ h => h) (Or.inl ⟨by rfl, ?_⟩) (by assumption) ?_
      rotate_left
      · (intro wS hSw; (try dsimp only at hSw); go_simp; try with_reducible rfl)
      try simp only [Act.put, List.setIfInBounds_toArray, List.set_cons_zero, List.set_cons_succ]
      refine wpAnyH_take (i := 5) (v := ?_) (by simp only [List.getElem?_toArray, List.getElem?_cons_succ, List.getElem?_cons_zero]; rfl) (by kernel_rfl) (by kernel_rfl) (by kernel_rfl) (fun _ _ _ h => h) (Or.inl ⟨by rfl, ?_⟩) (by assumption) ?_
      rotate_left
      · (intro wS hSw; (try dsimp only at hSw); go_simp; try with_reducible rfl)
      try simp only [Act.put, List.setIfInBounds_toArray, List.set_cons_zero, List.set_cons_succ]
      refine wpAnyH_take (i := 6) (v := ?_) (by simp only [List.getElem?_toArray, List.getElem?_cons_succ, List.getElem?_cons_zero]; rfl) (by kernel_rfl) (by kernel_rfl) (by kernel_rfl) (fun _ _ _ h => h) (Or.inl ⟨by rfl, ?_⟩) (by assumption) ?_
      rotate_left
      · (intro wS hSw; (try dsimp only at hSw); go_simp; try with_reducible rfl)
      try simp only [Act.put, List.setIfInBounds_toArray, List.set_cons_zero, List.set_cons_succ]
      refine wpAnyH_take (i := 7) (v := undef) (by simp only [List.getElem?_toArray, List.getElem?_cons_succ, List.getElem?_cons_zero]; rfl) (by kernel_rfl) (by kernel_rfl) (by kernel_rfl) (fun _ _ _ h => h) (Or.inr ⟨by rfl, rfl⟩) (by assumption) ?_
      try simp only [Act.put, List.setIfInBounds_toArray, List.set_cons_zero, List.set_cons_succ]
      refine wpAnyH_take (i := 8) (v := undef) (by simp only [List.getElem?_toArray, List.getElem?_cons_succ, List.getElem?_cons_zero]; rfl) (by kernel_rfl) (by kernel_rfl) (by kernel_rfl) (fun _ _ _ h => h) (Or.inr ⟨by rfl, rfl⟩) (by assumption) ?_
      try simp only [Act.put, List.setIfInBounds_toArray, List.set_cons_zero, List.set_cons_succ]
      refine wpAnyH_take (i := 9) (v := undef) (by simp only [List.getElem?_toArray, List.getElem?_cons_succ, List.getElem?_cons_zero]; rfl) (by kernel_rfl) (by kernel_rfl) (by kernel_rfl) (fun _ _ _ h => h) (Or.inr ⟨by rfl, rfl⟩) (by assumption) ?_
      try simp only [Act.put, List.setIfInBounds_toArray, List.set_cons_zero, List.set_cons_succ]
      refine wpAnyH_take (i := 10) (v := undef) (by simp only [List.getElem?_toArray, List.getElem?_cons_succ, List.getElem?_cons_zero]; rfl) (by kernel_rfl) (by kernel_rfl) (by kernel_rfl) (fun _ _ _ h => h) (Or.inr ⟨by rfl, rfl⟩) (by assumption) ?_
      try simp only [Act.put, List.setIfInBounds_toArray, List.set_cons_zero, List.set_cons_succ]
      refine wpAnyH_take (i := 11) (v := undef) (by simp only [List.getElem?_toArray, List.getElem?_cons_succ, List.getElem?_cons_zero]; rfl) (by kernel_rfl) (by kernel_rfl) (by kernel_rfl) (fun _ _ _ h => h) (Or.inr ⟨by rfl, rfl⟩) (by assumption) ?_
      try simp only [Act.put, List.setIfInBounds_toArray, List.set_cons_zero, List.set_cons_succ]
      refine wpAnyH_take (i := 12) (v := undef) (by simp only [List.getElem?_toArray, List.getElem?_cons_succ, List.getElem?_cons_zero]; rfl) (by kernel_rfl) (by kernel_rfl) (by kernel_rfl) (fun _ _ _ h => h) (Or.inr ⟨by rfl, rfl⟩) (by assumption) ?_
      try simp only [Act.put, List.setIfInBounds_toArray, List.set_cons_zero, List.set_cons_succ]
      refine wpAnyH_take (i := 13) (v := undef) (by simp only [List.getElem?_toArray, List.getElem?_cons_succ, List.getElem?_cons_zero]; rfl) (by kernel_rfl) (by kernel_rfl) (by kernel_rfl) (fun _ _ _ h => h) (Or.inr ⟨by rfl, rfl⟩) (by assumption) ?_
      try simp only [Act.put, List.setIfInBounds_toArray, List.set_cons_zero, List.set_cons_succ]
      refine wpAnyH_take (i := 14) (v := ?_) (by simp only [List.getElem?_toArray, List.getElem?_cons_succ, List.getElem?_cons_zero]; rfl) (by kernel_rfl) (by kernel_rfl) (by kernel_rfl) (fun _ _ _ h => h) (Or.inl ⟨by rfl, ?_⟩) (by assumption) ?_
      rotate_left
      · (intro wS hSw; (try dsimp only at hSw); go_simp; try with_reducible rfl)
      try simp only [Act.put, List.setIfInBounds_toArray, List.set_cons_zero, List.set_cons_succ]
      refine wpAnyH_take (i := 15) (v := ?_) (by simp only [List.getElem?_toArray, List.getElem?_cons_succ, List.getElem?_cons_zero]; rfl) (by kernel_rfl) (by kernel_rfl) (by kernel_rfl) (fun _ _ _ h => h) (Or.inl ⟨by rfl, ?_⟩) (by assumption) ?_
      rotate_left
      · (intro wS hSw; (try dsimp only at hSw); go_simp; try with_reducible rfl)
      try simp only [Act.put, List.setIfInBounds_toArray, List.set_cons_zero, List.set_cons_succ]
      refine wpAnyH_ready (rs := [16]) (by kernel_rfl) (by simp) ?_
      refine AllReadyH.cons (by simp only [List.getElem?_toArray, List.getElem?_cons_succ, List.getElem?_cons_zero]; rfl) (fun K hK => ?_) AllReadyH.nil
      go_simp
      refine (purlinlaw7_awake.calls _).mono ?_
      rintro e10 w10 ⟨rfl, hB⟩
      have B10 := Aside0.mk (below_step hHeld hB)
      clear hB
      go_wp2_with fail
      refine hK.out _ _ ?_ (fun hHeld => ?_)
      · (try dsimp only); exact B10.out
      clear hK K
      try simp only [Act.put, List.setIfInBounds_toArray, List.set_cons_zero, List.set_cons_succ]
      refine wpAnyH_take (i := 17) (v := ?_) (by simp only [List.getElem?_toArray, List.getElem?_cons_succ, List.getElem?_cons_zero]; rfl) (by kernel_rfl) (by kernel_rfl) (by kernel_rfl) (fun _ _ _ h => h) (Or.inl ⟨by rfl, ?_⟩) (by assumption) ?_
      rotate_left
      · (intro wS hSw; (try dsimp only at hSw); go_simp; try with_reducible rfl)
      try simp only [Act.put, List.setIfInBounds_toArray, List.set_cons_zero, List.set_cons_succ]
      refine wpAnyH_take (i := 18) (v := ?_) (by simp only [List.getElem?_toArray, List.getElem?_cons_succ, List.getElem?_cons_zero]; rfl) (by kernel_rfl) (by kernel_rfl) (by kernel_rfl) (fun _ _ _ h => h) (Or.inl ⟨by rfl, ?_⟩) (by assumption) ?_
      rotate_left
      · (intro wS hSw; (try dsimp only at hSw); go_simp; try with_reducible rfl)
      try simp only [Act.put, List.setIfInBounds_toArray, List.set_cons_zero, List.set_cons_succ]
      refine wpAnyH_done (by kernel_rfl) ?_ _
      refine NoPanic.normal ?_
      go_wp2
      go_ret
      exact ⟨rfl, below_step B6.out hHeld⟩
  · have HLP := Aside0.mk (show layIZ ps = ([], 2) from by rw [layIZ, if_neg h1])
    obtain ⟨Z, f, hZ⟩ : ∃ Z f, layIZ qs = (Z, f) := ⟨_, _, rfl⟩
    have HLQ := Aside0.mk hZ
    clear h1 hZ
    go_enter Try.func21, Try.ntmps21
    go_wp2_with (first | ((with_reducible refine gate_dst (N := 3) rfl ?_); refine box_event ?hg3 (N := 3) ?hd3 (cs := (nums .i64 ps).toArray) (t := 74) ?hr3 ?_; (case hd3 => rfl); (case hg3 => rfl); (case hr3 => first | (go_simp; done) | (go_simp; rfl)); intro g3 hg w0a hbox hb; have Ba := Aside0.mk (below_step HB0.out hb); have Ka := Aside0.mk (show HA w0a g3 74 .i64 ps from hbox); clear hg hbox hb) | ((with_reducible refine gate_dst (N := 4) rfl ?_); refine box_event ?hg4 (N := 4) ?hd4 (cs := (nums .i64 qs).toArray) (t := 74) ?hr4 ?_; (case hd4 => rfl); (case hg4 => rfl); (case hr4 => first | (go_simp; done) | (go_simp; rfl)); intro g4 hg w0 hbox hb; have B0 := Aside0.mk (below_step Ba.out hb); have K0 := Aside0.mk (show HA w0 g4 74 .i64 qs from hbox); have KP0 := Aside0.mk (Ka.out.below hb); clear hg hbox hb) | ((with_reducible refine gate_dst (N := 12) rfl ?_); (try (refine gate_guard (by rfl) ?_; dsimp only)); refine load_row_event rfl _ rfl KP0.out rfl (by rw [HL.out]; exact row74) ?_))
    refine (inode_Lay.calls ps HL.out w0).mono ?_
    rintro e1 w1 ⟨vx, rfl, hx, hB⟩
    rw [HLP.out] at hx
    rw [HLP.out]
    have HX1 := Aside0.mk (Kd.R_bound hx)
    have B1 := Aside0.mk (below_step B0.out hB)
    have KP1 := Aside0.mk (KP0.out.below hB)
    have KQ1 := Aside0.mk (K0.out.below hB)
    clear hx hB
    go_wp2_with (first | ((with_reducible refine gate_dst (N := 17) rfl ?_); (try (refine gate_guard (by rfl) ?_; dsimp only)); refine load_row_event rfl _ rfl KQ1.out rfl (by rw [HM.out]; exact row74) ?_))
    refine (inode_Lay.calls qs HM.out w1).mono ?_
    rintro e2 w2 ⟨vy, rfl, hy, hB⟩
    rw [HLQ.out] at hy
    rw [HLQ.out]
    have HY2 := Aside0.mk (Kd.R_bound hy)
    have HX2 := Aside0.mk (Kd.R_below HX1.out hB)
    have B2 := Aside0.mk (below_step B1.out hB)
    have KP2 := Aside0.mk (KP1.out.below hB)
    have KQ2 := Aside0.mk (KQ1.out.below hB)
    clear hy hB
    go_wp2_with fail
    refine (purlinlaw0_Low.calls s0 20736 s w2 FS.out).mono ?_
    rintro e3 w3 ⟨rfl, hB⟩
    have B3 := Aside0.mk (below_step B2.out hB)
    have HX3 := Aside0.mk (Kd.R_below HX2.out hB)
    have HY3 := Aside0.mk (Kd.R_below HY2.out hB)
    have KP3 := Aside0.mk (KP2.out.below hB)
    have KQ3 := Aside0.mk (KQ2.out.below hB)
    clear hB
    go_wp2_with fail
    refine (inode_Need.calls s n w3 N1.out).mono ?_
    rintro e4 w4 ⟨rfl, hD⟩
    have B4 := Aside0.mk (below_step B3.out hD.below)
    have HX4 := Aside0.mk (Kd.R_below HX3.out hD.below)
    have HY4 := Aside0.mk (Kd.R_below HY3.out hD.below)
    have KP4 := Aside0.mk (KP3.out.below hD.below)
    have KQ4 := Aside0.mk (KQ3.out.below hD.below)
    clear hD
    have sw := SW.out
    go_wp2_with fail
    rw [sw]
    clear sw
    refine (inode_Need.calls (s + 1) n' w4 N2.out).mono ?_
    rintro e5 w5 ⟨rfl, hD⟩
    have B5 := Aside0.mk (below_step B4.out hD.below)
    have HX5 := Aside0.mk (Kd.R_below HX4.out hD.below)
    have HY5 := Aside0.mk (Kd.R_below HY4.out hD.below)
    have KP5 := Aside0.mk (KP4.out.below hD.below)
    have KQ5 := Aside0.mk (KQ4.out.below hD.below)
    clear hD
    have nm := NM.out
    go_wp2_with fail
    rw [SN.out]
    refine (inode_Need.calls (-s) 0 w5 N3.out).mono ?_
    rintro e6 w6 ⟨rfl, hD⟩
    have B6 := Aside0.mk (below_step B5.out hD.below)
    have HX6 := Aside0.mk (Kd.R_below HX5.out hD.below)
    have HY6 := Aside0.mk (Kd.R_below HY5.out hD.below)
    have KP6 := Aside0.mk (KP5.out.below hD.below)
    have KQ6 := Aside0.mk (KQ5.out.below hD.below)
    clear hD nm
    obtain ⟨Ax, cx, rfl⟩ := Kd.R_slice HX6.out
    obtain ⟨Ay, cy, rfl⟩ := Kd.R_slice HY6.out
    go_wp2
    refine wp_region_noPanic ?_
    refine wp_region_held_drew (S := (fun w' => Below w6.heap.size w6 w')) (by kernel_rfl) ?_ (fun hHeld => ?_)
    · (try dsimp only); exact below_drew (Below.refl _ _)
    refine wpAnyH_take (i := 0) (v := ?_) (by simp only [List.getElem?_toArray, List.getElem?_cons_succ, List.getElem?_cons_zero]; rfl) (by kernel_rfl) (by kernel_rfl) (by kernel_rfl) (fun _ _ _ h => h) (Or.inl ⟨by rfl, ?_⟩) (by assumption) ?_
    rotate_left
    · (intro wS hSw; (try dsimp only at hSw); go_simp; try with_reducible rfl)
    try simp only [Act.put, List.setIfInBounds_toArray, List.set_cons_zero, List.set_cons_succ]
    refine wpAnyH_take (i := 1) (v := ?_) (by simp only [List.getElem?_toArray, List.getElem?_cons_succ, List.getElem?_cons_zero]; rfl) (by kernel_rfl) (by kernel_rfl) (by kernel_rfl) (fun _ _ _ h => h) (Or.inl ⟨by rfl, ?_⟩) (by assumption) ?_
    rotate_left
    · (intro wS hSw; (try dsimp only at hSw); go_simp; try with_reducible rfl)
    try simp only [Act.put, List.setIfInBounds_toArray, List.set_cons_zero, List.set_cons_succ]
    refine wpAnyH_take (i := 2) (v := ?_) (by simp only [List.getElem?_toArray, List.getElem?_cons_succ, List.getElem?_cons_zero]; rfl) (by kernel_rfl) (by kernel_rfl) (by kernel_rfl) (fun _ _ _ h => h) (Or.inl ⟨by rfl, ?_⟩) (by assumption) ?_
    rotate_left
    · (intro wS hSw; (try dsimp only at hSw); go_simp; try with_reducible rfl)
    try simp only [Act.put, List.setIfInBounds_toArray, List.set_cons_zero, List.set_cons_succ]
    refine wpAnyH_take (i := 3) (v := undef) (by simp only [List.getElem?_toArray, List.getElem?_cons_succ, List.getElem?_cons_zero]; rfl) (by kernel_rfl) (by kernel_rfl) (by kernel_rfl) (fun _ _ _ h => h) (Or.inr ⟨by rfl, rfl⟩) (by assumption) ?_
    try simp only [Act.put, List.setIfInBounds_toArray, List.set_cons_zero, List.set_cons_succ]
    refine wpAnyH_take (i := 4) (v := undef) (by simp only [List.getElem?_toArray, List.getElem?_cons_succ, List.getElem?_cons_zero]; rfl) (by kernel_rfl) (by kernel_rfl) (by kernel_rfl) (fun _ _ _ h => h) (Or.inr ⟨by rfl, rfl⟩) (by assumption) ?_
    try simp only [Act.put, List.setIfInBounds_toArray, List.set_cons_zero, List.set_cons_succ]
    refine wpAnyH_take (i := 5) (v := ?_) (by simp only [List.getElem?_toArray, List.getElem?_cons_succ, List.getElem?_cons_zero]; rfl) (by kernel_rfl) (by kernel_rfl) (by kernel_rfl) (fun _ _ _ h => h) (Or.inl ⟨by rfl, ?_⟩) (by assumption) ?_
    rotate_left
    · (intro wS hSw; (try dsimp only at hSw); go_simp; try with_reducible rfl)
    try simp only [Act.put, List.setIfInBounds_toArray, List.set_cons_zero, List.set_cons_succ]
    refine wpAnyH_take (i := 6) (v := ?_) (by simp only [List.getElem?_toArray, List.getElem?_cons_succ, List.getElem?_cons_zero]; rfl) (by kernel_rfl) (by kernel_rfl) (by kernel_rfl) (fun _ _ _ h => h) (Or.inl ⟨by rfl, ?_⟩) (by assumption) ?_
    rotate_left
    · (intro wS hSw; (try dsimp only at hSw); go_simp; try with_reducible rfl)
    try simp only [Act.put, List.setIfInBounds_toArray, List.set_cons_zero, List.set_cons_succ]
    refine wpAnyH_take (i := 7) (v := undef) (by simp only [List.getElem?_toArray, List.getElem?_cons_succ, List.getElem?_cons_zero]; rfl) (by kernel_rfl) (by kernel_rfl) (by kernel_rfl) (fun _ _ _ h => h) (Or.inr ⟨by rfl, rfl⟩) (by assumption) ?_
    try simp only [Act.put, List.setIfInBounds_toArray, List.set_cons_zero, List.set_cons_succ]
    refine wpAnyH_take (i := 8) (v := undef) (by simp only [List.getElem?_toArray, List.getElem?_cons_succ, List.getElem?_cons_zero]; rfl) (by kernel_rfl) (by kernel_rfl) (by kernel_rfl) (fun _ _ _ h => h) (Or.inr ⟨by rfl, rfl⟩) (by assumption) ?_
    try simp only [Act.put, List.setIfInBounds_toArray, List.set_cons_zero, List.set_cons_succ]
    refine wpAnyH_take (i := 9) (v := undef) (by simp only [List.getElem?_toArray, List.getElem?_cons_succ, List.getElem?_cons_zero]; rfl) (by kernel_rfl) (by kernel_rfl) (by kernel_rfl) (fun _ _ _ h => h) (Or.inr ⟨by rfl, rfl⟩) (by assumption) ?_
    try simp only [Act.put, List.setIfInBounds_toArray, List.set_cons_zero, List.set_cons_succ]
    refine wpAnyH_take (i := 10) (v := undef) (by simp only [List.getElem?_toArray, List.getElem?_cons_succ, List.getElem?_cons_zero]; rfl) (by kernel_rfl) (by kernel_rfl) (by kernel_rfl) (fun _ _ _ h => h) (Or.inr ⟨by rfl, rfl⟩) (by assumption) ?_
    try simp only [Act.put, List.setIfInBounds_toArray, List.set_cons_zero, List.set_cons_succ]
    refine wpAnyH_take (i := 11) (v := undef) (by simp only [List.getElem?_toArray, List.getElem?_cons_succ, List.getElem?_cons_zero]; rfl) (by kernel_rfl) (by kernel_rfl) (by kernel_rfl) (fun _ _ _ h => h) (Or.inr ⟨by rfl, rfl⟩) (by assumption) ?_
    try simp only [Act.put, List.setIfInBounds_toArray, List.set_cons_zero, List.set_cons_succ]
    refine wpAnyH_take (i := 12) (v := undef) (by simp only [List.getElem?_toArray, List.getElem?_cons_succ, List.getElem?_cons_zero]; rfl) (by kernel_rfl) (by kernel_rfl) (by kernel_rfl) (fun _ _ _ h => h) (Or.inr ⟨by rfl, rfl⟩) (by assumption) ?_
    try simp only [Act.put, List.setIfInBounds_toArray, List.set_cons_zero, List.set_cons_succ]
    refine wpAnyH_take (i := 13) (v := undef) (by simp only [List.getElem?_toArray, List.getElem?_cons_succ, List.getElem?_cons_zero]; rfl) (by kernel_rfl) (by kernel_rfl) (by kernel_rfl) (fun _ _ _ h => h) (Or.inr ⟨by rfl, rfl⟩) (by assumption) ?_
    try simp only [Act.put, List.setIfInBounds_toArray, List.set_cons_zero, List.set_cons_succ]
    refine wpAnyH_take (i := 14) (v := ?_) (by simp only [List.getElem?_toArray, List.getElem?_cons_succ, List.getElem?_cons_zero]; rfl) (by kernel_rfl) (by kernel_rfl) (by kernel_rfl) (fun _ _ _ h => h) (Or.inl ⟨by rfl, ?_⟩) (by assumption) ?_
    rotate_left
    · (intro wS hSw; (try dsimp only at hSw); go_simp; try with_reducible rfl)
    try simp only [Act.put, List.setIfInBounds_toArray, List.set_cons_zero, List.set_cons_succ]
    refine wpAnyH_take (i := 15) (v := ?_) (by simp only [List.getElem?_toArray, List.getElem?_cons_succ, List.getElem?_cons_zero]; rfl) (by kernel_rfl) (by kernel_rfl) (by kernel_rfl) (fun _ _ _ h => h) (Or.inl ⟨by rfl, ?_⟩) (by assumption) ?_
    rotate_left
    · (intro wS hSw; (try dsimp only at hSw); go_simp; try with_reducible rfl)
    try simp only [Act.put, List.setIfInBounds_toArray, List.set_cons_zero, List.set_cons_succ]
    refine wpAnyH_ready (rs := [16]) (by kernel_rfl) (by simp) ?_
    refine AllReadyH.cons (by simp only [List.getElem?_toArray, List.getElem?_cons_succ, List.getElem?_cons_zero]; rfl) (fun K hK => ?_) AllReadyH.nil
    go_simp
    refine (purlinlaw7_awake.calls _).mono ?_
    rintro e10 w10 ⟨rfl, hB⟩
    have B10 := Aside0.mk (below_step hHeld hB)
    clear hB
    go_wp2_with fail
    refine hK.out _ _ ?_ (fun hHeld => ?_)
    · (try dsimp only); exact B10.out
    clear hK K
    try simp only [Act.put, List.setIfInBounds_toArray, List.set_cons_zero, List.set_cons_succ]
    refine wpAnyH_take (i := 17) (v := ?_) (by simp only [List.getElem?_toArray, List.getElem?_cons_succ, List.getElem?_cons_zero]; rfl) (by kernel_rfl) (by kernel_rfl) (by kernel_rfl) (fun _ _ _ h => h) (Or.inl ⟨by rfl, ?_⟩) (by assumption) ?_
    rotate_left
    · (intro wS hSw; (try dsimp only at hSw); go_simp; try with_reducible rfl)
    try simp only [Act.put, List.setIfInBounds_toArray, List.set_cons_zero, List.set_cons_succ]
    refine wpAnyH_take (i := 18) (v := ?_) (by simp only [List.getElem?_toArray, List.getElem?_cons_succ, List.getElem?_cons_zero]; rfl) (by kernel_rfl) (by kernel_rfl) (by kernel_rfl) (fun _ _ _ h => h) (Or.inl ⟨by rfl, ?_⟩) (by assumption) ?_
    rotate_left
    · (intro wS hSw; (try dsimp only at hSw); go_simp; try with_reducible rfl)
    try simp only [Act.put, List.setIfInBounds_toArray, List.set_cons_zero, List.set_cons_succ]
    refine wpAnyH_done (by kernel_rfl) ?_ _
    refine NoPanic.normal ?_
    go_wp2
    go_ret
    exact ⟨rfl, below_step B6.out hHeld⟩
theorem purlinlaw7_InodeApart.walk (ps qs : List Int) (s0 : Int) (w : World) (hl : ps.length = 44) (hw : ∀ x ∈ ps, (Lit.int .i64 x).wf = true) (hm : qs.length = 44) (hw2 : ∀ x ∈ qs, (Lit.int .i64 x).wf = true) (w2 : (Lit.int .i64 s0).wf = true) :
    Calls Try.prog 21 #[.agg (nums .i64 ps).toArray, .agg (nums .i64 qs).toArray, .int .i64 s0] w fun e w' => e = .returned (.bool true) ∧ Below w.heap.size w w' := purlinlaw7_InodeApart.calls ps qs s0 w hl hm
end Go.Proofs.Ytnhpmmmkcemnmaa.Pc
