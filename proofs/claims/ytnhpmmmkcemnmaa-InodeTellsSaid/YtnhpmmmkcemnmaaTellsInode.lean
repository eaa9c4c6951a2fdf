/- The walk of InodeTells, by hand: it answers true whatever it is given. -/
import Derived.Test.YtnhpmmmkcemnmaaHt
import Derived.Test.YtnhpmmmkcemnmaaHx
import Derived.Test.YtnhpmmmkcemnmaaHl
import Derived.Test.YtnhpmmmkcemnmaaQj
import Derived.Test.YtnhpmmmkcemnmaaQr
namespace Go.Proofs.Ytnhpmmmkcemnmaa.Pc
open Go.RowKit Go.Proofs.YtnhpmmmkcemnmaaW.PrintWords Go.Proofs.YtnhpmmmkcemnmaaW.PrintLast Go.Proofs.YtnhpmmmkcemnmaaW.PrintMore
set_option linter.unusedVariables false
set_option linter.unusedSimpArgs false

theorem HB8.lent' {w : World} {g : Nat} {l : List Int} (h : HB8 w g (l ++ [119, 119, 119])) (hm : l.length ≤ 1000) : Kd.C (Kd.int .u8) w (some ⟨g, 0, none⟩) l.length l := by
  have h2 := h.reads 0 l.length (by simp) (by omega)
  rw [List.drop_zero, List.take_left] at h2
  exact h2
theorem R_C' {w : World} {base : Nat} {ok : Nat → Prop} {A : Option Addr} {n c : Nat} {xs : List Int} (h : Kd.R (Kd.int .u8) 5 w base ok (.slice A n c) xs) : Kd.C (Kd.int .u8) w A xs.length xs ∧ xs.length ≤ c := by
  obtain ⟨hn, hc, hC⟩ := Kd.R_reads' h
  subst hn
  exact ⟨hC, hc⟩
theorem layI_len {is : List Int} (hl : is.length = 44) : (layIZ is).1.length ≤ 128 := by
  unfold layIZ
  split
  · rw [sealI_len hl]
    omega
  · simp

set_option maxHeartbeats 12800000 in
set_option maxRecDepth 100000 in
theorem purlinlaw7_InodeTells.calls (is : List Int) (hl : is.length = 44) (A2 : Option Addr) (c2 : Nat) (l2 : List Int) (k : Int) (w : World)
    (hr2 : Kd.C (Kd.int .u8) w A2 l2.length l2) (hc2 : l2.length ≤ c2) (by2 : By l2) :
    Calls Try.prog 18 #[.agg (nums .i64 is).toArray, .slice A2 l2.length c2, .int .i64 k] w fun e w' => e = .returned (.bool true) ∧ Below w.heap.size w w' := by
  have HL := Aside0.mk hl
  have HB0 := Aside0.mk (Below.refl w.heap.size w)
  by_cases m2 : l2.length ≤ 200
  · have d3 : decide (200 < (l2.length : Int)) = false := decide_eq_false (by omega)
    have d4 : decide (200 < l2.length) = false := decide_eq_false (by omega)
    obtain ⟨U, u, hU⟩ : ∃ U u, readIZ l2 = (U, u) := ⟨_, _, rfl⟩
    have HU := Aside0.mk hU
    have HUL := Aside0.mk (show U.length = 44 from by have := readI_len l2; rw [hU] at this; exact this)
    obtain ⟨X, e, hX⟩ : ∃ X e, layIZ is = (X, e) := ⟨_, _, rfl⟩
    have HLZ := Aside0.mk hX
    have hXl : X.length ≤ 128 := by have := layI_len hl; rw [hX] at this; exact this
    have F5 := Aside0.mk (show purlinlaw0_SameBytes.f 400 X X = some true by rw [same_is X X (by omega) 400 (by omega), beq_self_eq_true])
    have F11 := Aside0.mk (over_is X (by omega) 400 (by omega))
    have F14 := Aside0.mk (show purlinlaw0_SameBytes.f 400 l2 l2 = some true by rw [same_is l2 l2 (by omega) 400 (by omega), beq_self_eq_true])
    obtain ⟨p1, p2, p3, hp⟩ : ∃ p1 p2 p3, placeZ k = (p1, p2, p3) := ⟨_, _, _, rfl⟩
    have P1 := Aside0.mk (show inode_Place.f 10 k = some (p1, p2, p3) from by rw [place_is, hp])
    have P2 := Aside0.mk (show purlinref7_Place.f 10 k = some (p1, p2, p3) from by rw [place_ref_is, hp])
    obtain ⟨n, hn⟩ : ∃ n, n = needZ k := ⟨_, rfl⟩
    have N1 := Aside0.mk (show inode_Need.f k = some n from by rw [need_is, hn])
    have N2 := Aside0.mk (show purlinref7_Need.f k = some n from by rw [need_ref_is, hn])
    have HC0 := Aside0.mk (show ((is.drop 0).take 11).length = 11 from by rw [List.drop_zero, List.length_take, hl]; rfl)
    have HR2 := Aside0.mk hr2
    have HC2 := Aside0.mk hc2
    have M2 := Aside0.mk m2
    have BY2 := Aside0.mk by2
    clear hU by2 hr2 hc2 m2 hl hX hXl hp hn
    go_enter Try.func18, Try.ntmps18
    go_wp2_with (first | ((with_reducible refine gate_dst (N := 3) rfl ?_); refine box_event ?hg3 (N := 3) ?hd3 (cs := (nums .i64 is).toArray) (t := 74) ?hr3 ?_; (case hd3 => rfl); (case hg3 => rfl); (case hr3 => first | (go_simp; done) | (go_simp; rfl)); intro g0 hg w0 hbox hb; have B0 := Aside0.mk (below_step HB0.out hb); have K0 := Aside0.mk (show HA w0 g0 74 .i64 is from hbox); clear hg hbox hb))
    refine (lend_calls A2 c2 l2 w0 (Kd.C_below HR2.out B0.out) (by have := M2.out; omega)).mono ?_
    rintro e1 w1 ⟨g1, rfl, hg1, hb1, hB1⟩
    have G1 := Aside0.mk hg1
    have L1 := Aside0.mk hb1
    have B1 := Aside0.mk (below_step B0.out hB1)
    have K1 := Aside0.mk (K0.out.below hB1)
    clear hg1 hb1 hB1
    go_wp2_with (first | ((with_reducible refine gate_dst (N := 30) rfl ?_); (try (refine gate_guard (by rfl) ?_; dsimp only)); refine load_row_event rfl _ rfl K1.out rfl (by rw [HL.out]; exact row74) ?_))
    refine (inode_Lay.calls is HL.out w1).mono ?_
    rintro e2 w2 ⟨vx, rfl, hx, hB2⟩
    rw [HLZ.out] at hx
    rw [HLZ.out]
    have HX2 := Aside0.mk (Kd.R_bound hx)
    have B2 := Aside0.mk hB2
    have K2 := Aside0.mk (K1.out.below hB2)
    clear hx hB2
    go_wp2_with (first | ((with_reducible refine gate_dst (N := 35) rfl ?_); (try (refine gate_guard (by rfl) ?_; dsimp only)); refine load_row_event rfl _ rfl K2.out rfl (by rw [HL.out]; exact row74) ?_))
    refine (purlinref7_Lay.calls is HL.out w2).mono ?_
    rintro e3 w3 ⟨vy, rfl, hy, hB3⟩
    rw [HLZ.out] at hy
    rw [HLZ.out]
    have HY3 := Aside0.mk (Kd.R_bound hy)
    have S23 := Aside0.mk hB3.size
    have B3 := Aside0.mk (below_step B2.out hB3)
    have HX3 := Aside0.mk (Kd.R_below HX2.out hB3)
    have K3 := Aside0.mk (K2.out.below hB3)
    clear hy hB3 HX2
    go_wp2_with fail
    refine (inode_Read.calls _ _ l2 w3 ((L1.out.below B3.out).lent' (by have := M2.out; omega)) (by omega) BY2.out).mono ?_
    rintro e4 w4 ⟨rfl, hB4⟩
    rw [HU.out]
    have B4 := Aside0.mk (below_step B3.out hB4)
    have S34 := Aside0.mk hB4.size
    have HX4 := Aside0.mk (Kd.R_below HX3.out hB4)
    have HY4 := Aside0.mk (Kd.R_below HY3.out hB4)
    have K4 := Aside0.mk (K3.out.below hB4)
    have KL := Aside0.mk K3.out.lt
    clear hB4 HX3 HY3
    go_wp2_with (first | ((with_reducible refine gate_dst (N := 12) rfl ?_); refine box_event ?hg12 (N := 12) ?hd12 (cs := (nums .i64 zero44).toArray) (t := 74) ?hr12 ?_; (case hd12 => rfl); (case hg12 => rfl); (case hr12 => first | (go_simp; done) | (go_simp; rfl)); intro g5 hg w5 hbox hb; have G5 := Aside0.mk (show w4.heap.size ≤ g5 from by omega); have B5 := Aside0.mk (below_step B4.out hb); have K5 := Aside0.mk (show HA w5 g5 74 .i64 zero44 from hbox); have KP5 := Aside0.mk (K4.out.below hb); have HX5 := Aside0.mk (Kd.R_below HX4.out hb); have HY5 := Aside0.mk (Kd.R_below HY4.out hb); clear hg hbox hb) | ((with_reducible refine gate_store (t := 74) (p := 12) rfl ?_); refine store_row_event (w0 := w1) rfl rfl 12 _ rfl (new := U) K5.out rfl rfl (by rw [HUL.out]; exact row74) HUL.out.symm (by have := G5.out; have := B4.out.size; omega) B5.out ?_; intro w6 hk hgr hb; have K6 := Aside0.mk hk; have B6 := Aside0.mk hb; have KP6 := Aside0.mk (show HA w6 g0 74 .i64 is from KP5.out.grown hgr (fun e => by cases e; have := KL.out; have := S34.out; have := G5.out; omega)); have HX6 := Aside0.mk (Kd.R_grown HX5.out hgr (fun k hk e => by cases e; have := hk.2.2.1; have := S23.out; have := S34.out; have := G5.out; omega)); have HY6 := Aside0.mk (Kd.R_grown HY5.out hgr (fun k hk e => by cases e; have := hk.2.2.1; have := S34.out; have := G5.out; omega)); clear hk hgr hb K5 B5 HX5 HY5))
    refine (purlinref7_Read.calls _ _ l2 w6 (Kd.C_below HR2.out (below_step B1.out B6.out)) HC2.out BY2.out).mono ?_
    rintro e7 w7 ⟨rfl, hB7⟩
    rw [HU.out]
    have B7 := Aside0.mk (below_step B6.out hB7)
    have K7 := Aside0.mk (K6.out.below hB7)
    have KP7 := Aside0.mk (KP6.out.below hB7)
    have HX7 := Aside0.mk (Kd.R_below HX6.out hB7)
    have HY7 := Aside0.mk (Kd.R_below HY6.out hB7)
    have S47 := Aside0.mk (show g5 < w7.heap.size from K7.out.lt)
    clear hB7 HX6 HY6
    go_wp2_with (first | ((with_reducible refine gate_dst (N := 14) rfl ?_); refine box_event ?hg14 (N := 14) ?hd14 (cs := (nums .i64 zero44).toArray) (t := 74) ?hr14 ?_; (case hd14 => rfl); (case hg14 => rfl); (case hr14 => first | (go_simp; done) | (go_simp; rfl)); intro g8 hg wa hbox hb; have G8 := Aside0.mk (show w7.heap.size ≤ g8 from by omega); have Ba := Aside0.mk (below_step B7.out hb); have Ka := Aside0.mk (show HA wa g8 74 .i64 zero44 from hbox); have KUa := Aside0.mk (K7.out.below hb); have KPa := Aside0.mk (KP7.out.below hb); have HXa := Aside0.mk (Kd.R_below HX7.out hb); have HYa := Aside0.mk (Kd.R_below HY7.out hb); clear hg hbox hb) | ((with_reducible refine gate_store (t := 74) (p := 14) rfl ?_); refine store_row_event (w0 := w1) rfl rfl 14 _ rfl (new := U) Ka.out rfl rfl (by rw [HUL.out]; exact row74) HUL.out.symm (by have := G8.out; have := B7.out.size; omega) Ba.out ?_; intro wb hk hgr hb; have KVb := Aside0.mk (show HA wb g8 74 .i64 U from hk); have Bb := Aside0.mk hb; have KUb := Aside0.mk (show HA wb g5 74 .i64 U from KUa.out.grown hgr (fun e => by cases e; have := S47.out; have := G8.out; omega)); have KPb := Aside0.mk (show HA wb g0 74 .i64 is from KPa.out.grown hgr (fun e => by cases e; have := KP7.out.lt; have := G8.out; omega)); have HXb := Aside0.mk (Kd.R_grown HXa.out hgr (fun k hk e => by cases e; have := hk.2.2.1; have := S23.out; have := S34.out; have := S47.out; have := G5.out; have := G8.out; omega)); have HYb := Aside0.mk (Kd.R_grown HYa.out hgr (fun k hk e => by cases e; have := hk.2.2.1; have := S34.out; have := S47.out; have := G5.out; have := G8.out; omega)); clear hk hgr hb Ka HXa HYa))
    refine (inode_Place.calls 10 k p1 p2 p3 wb P1.out).mono ?_
    rintro e8 wc ⟨rfl, hD⟩
    have Bc := Aside0.mk (below_step Bb.out hD.below)
    have KUc := Aside0.mk (KUb.out.below hD.below)
    have KVc := Aside0.mk (KVb.out.below hD.below)
    have KPc := Aside0.mk (KPb.out.below hD.below)
    have HXc := Aside0.mk (Kd.R_below HXb.out hD.below)
    have HYc := Aside0.mk (Kd.R_below HYb.out hD.below)
    clear hD HXb HYb
    go_wp2_with fail
    refine (purlinref7_Place.calls 10 k p1 p2 p3 wc P2.out).mono ?_
    rintro e9 w8 ⟨rfl, hD⟩
    have B8 := Aside0.mk (below_step Bc.out hD.below)
    have KU := Aside0.mk (KUc.out.below hD.below)
    have KV := Aside0.mk (KVc.out.below hD.below)
    have KP := Aside0.mk (KPc.out.below hD.below)
    have HX8 := Aside0.mk (Kd.R_below HXc.out hD.below)
    have HY8 := Aside0.mk (Kd.R_below HYc.out hD.below)
    clear hD HXc HYc
    obtain ⟨Ax, cx, rfl⟩ := Kd.R_slice HX8.out
    obtain ⟨Ay, cy, rfl⟩ := Kd.R_slice HY8.out
    have HXC := Aside0.mk (R_C' HX8.out).1
    have HXC2 := Aside0.mk (R_C' HX8.out).2
    have HYC := Aside0.mk (R_C' HY8.out).1
    have HYC2 := Aside0.mk (R_C' HY8.out).2
    go_wp2
    refine wp_region_noPanic ?_
    refine wp_region_held_drew (S := (fun w' => Below w8.heap.size w8 w')) (by kernel_rfl) ?_ (fun hHeld => ?_)
    · (try dsimp only); exact below_drew (Below.refl _ _)
    refine wpAnyH_take (i := 0) (v := ?_) (by simp only [List.getElem?_toArray, List.getElem?_cons_succ, List.getElem?_cons_zero]; rfl) (by kernel_rfl) (by kernel_rfl) (by kernel_rfl) (fun _ _ _ h => h) (Or.inl ⟨by rfl, ?_⟩) (by assumption) ?_
    rotate_left
    · (intro wS hSw; (try dsimp only at hSw); go_simp; try with_reducible rfl)
    try simp only [Act.put, List.setIfInBounds_toArray, List.set_cons_zero, List.set_cons_succ]
    refine wpAnyH_take (i := 1) (v := ?_) (by simp only [List.getElem?_toArray, List.getElem?_cons_succ, List.getElem?_cons_zero]; rfl) (by kernel_rfl) (by kernel_rfl) (by kernel_rfl) (fun _ _ _ h => h) (Or.inl ⟨by rfl, ?_⟩) (by assumption) ?_
    rotate_left
    · (intro wS hSw; (try dsimp only at hSw); go_simp; try with_reducible rfl)
    try simp only [Act.put, List.setIfInBounds_toArray, List.set_cons_zero, List.set_cons_succ]
    refine wpAnyH_ready (rs := [2]) (by kernel_rfl) (by simp) ?_
    refine AllReadyH.cons (by simp only [List.getElem?_toArray, List.getElem?_cons_succ, List.getElem?_cons_zero]; rfl) (fun K hK => ?_) AllReadyH.nil
    go_simp
    refine (purlinlaw0_SameBytes.calls 400 _ _ X _ _ X true _ (Kd.C_below HXC.out hHeld) HXC2.out (Kd.C_below HYC.out hHeld) HYC2.out F5.out).mono ?_
    rintro e9 wb1 ⟨rfl, hD⟩
    have Bb1 := Aside0.mk (below_step hHeld hD.below)
    clear hD
    go_wp2_with fail
    refine hK.out _ _ ?_ (fun hHeld => ?_)
    · (try dsimp only); exact Bb1.out
    clear hK K
    try simp only [Act.put, List.setIfInBounds_toArray, List.set_cons_zero, List.set_cons_succ]
    refine wpAnyH_take (i := 3) (v := ?_) (by simp only [List.getElem?_toArray, List.getElem?_cons_succ, List.getElem?_cons_zero]; rfl) (by kernel_rfl) (by kernel_rfl) (by kernel_rfl) (fun _ _ _ h => h) (Or.inl ⟨by rfl, ?_⟩) (by assumption) ?_
    rotate_left
    · (intro wS hSw; (try dsimp only at hSw); go_simp; try with_reducible rfl)
    try simp only [Act.put, List.setIfInBounds_toArray, List.set_cons_zero, List.set_cons_succ]
    refine wpAnyH_take (i := 4) (v := ?_) (by simp only [List.getElem?_toArray, List.getElem?_cons_succ, List.getElem?_cons_zero]; rfl) (by kernel_rfl) (by kernel_rfl) (by kernel_rfl) (fun _ _ _ h => h) (Or.inl ⟨by rfl, ?_⟩) (by assumption) ?_
    rotate_left
    · (intro wS hSw; (try dsimp only at hSw); go_simp; try with_reducible rfl)
    try simp only [Act.put, List.setIfInBounds_toArray, List.set_cons_zero, List.set_cons_succ]
    refine wpAnyH_take (i := 5) (v := ?_) (by simp only [List.getElem?_toArray, List.getElem?_cons_succ, List.getElem?_cons_zero]; rfl) (by kernel_rfl) (by kernel_rfl) (by kernel_rfl) (fun _ _ _ h => h) (Or.inl ⟨by rfl, ?_⟩) (by assumption) ?_
    rotate_left
    · (intro wS hSw; (try dsimp only at hSw); go_simp; try with_reducible rfl)
    try simp only [Act.put, List.setIfInBounds_toArray, List.set_cons_zero, List.set_cons_succ]
    refine wpAnyH_take (i := 6) (v := ?_) (by simp only [List.getElem?_toArray, List.getElem?_cons_succ, List.getElem?_cons_zero]; rfl) (by kernel_rfl) (by kernel_rfl) (by kernel_rfl) (fun _ _ _ h => h) (Or.inl ⟨by rfl, ?_⟩) (by assumption) ?_
    rotate_left
    · (intro wS hSw; (try dsimp only at hSw); go_simp; try with_reducible rfl)
    try simp only [Act.put, List.setIfInBounds_toArray, List.set_cons_zero, List.set_cons_succ]
    refine wpAnyH_take (i := 7) (v := ?_) (by simp only [List.getElem?_toArray, List.getElem?_cons_succ, List.getElem?_cons_zero]; rfl) (by kernel_rfl) (by kernel_rfl) (by kernel_rfl) (fun _ _ _ h => h) (Or.inl ⟨by rfl, ?_⟩) (by assumption) ?_
    rotate_left
    · (intro wS hSw; (try dsimp only at hSw); go_simp; try with_reducible rfl)
    try simp only [Act.put, List.setIfInBounds_toArray, List.set_cons_zero, List.set_cons_succ]
    refine wpAnyH_take (i := 8) (v := ?_) (by simp only [List.getElem?_toArray, List.getElem?_cons_succ, List.getElem?_cons_zero]; rfl) (by kernel_rfl) (by kernel_rfl) (by kernel_rfl) (fun _ _ _ h => h) (Or.inl ⟨by rfl, ?_⟩) (by assumption) ?_
    rotate_left
    · (intro wS hSw; (try dsimp only at hSw); go_simp; try with_reducible rfl)
    try simp only [Act.put, List.setIfInBounds_toArray, List.set_cons_zero, List.set_cons_succ]
    refine wpAnyH_take (i := 9) (v := .agg (nums .i64 U).toArray) (by simp only [List.getElem?_toArray, List.getElem?_cons_succ, List.getElem?_cons_zero]; rfl) (by kernel_rfl) (by kernel_rfl) (by kernel_rfl) (fun _ _ _ h => h) (Or.inl ⟨by rfl, ?_⟩) (by assumption) ?_
    · (intro wS hSw; (try dsimp only at hSw); exact load_row_exec (by rfl) (KU.out.below hSw) (by rfl) (by rw [HUL.out]; exact row74))
    try simp only [Act.put, List.setIfInBounds_toArray, List.set_cons_zero, List.set_cons_succ]
    refine wpAnyH_take (i := 10) (v := .agg (nums .i64 U).toArray) (by simp only [List.getElem?_toArray, List.getElem?_cons_succ, List.getElem?_cons_zero]; rfl) (by kernel_rfl) (by kernel_rfl) (by kernel_rfl) (fun _ _ _ h => h) (Or.inl ⟨by rfl, ?_⟩) (by assumption) ?_
    · (intro wS hSw; (try dsimp only at hSw); exact load_row_exec (by rfl) (KV.out.below hSw) (by rfl) (by rw [HUL.out]; exact row74))
    try simp only [Act.put, List.setIfInBounds_toArray, List.set_cons_zero, List.set_cons_succ]
    refine wpAnyH_take (i := 11) (v := .bool true) (by simp only [List.getElem?_toArray, List.getElem?_cons_succ, List.getElem?_cons_zero]; rfl) (by kernel_rfl) (by kernel_rfl) (by kernel_rfl) (fun _ _ _ h => h) (Or.inl ⟨by rfl, ?_⟩) (by assumption) ?_
    · (intro wS hSw; (try dsimp only at hSw); exact eq_row_exec (by rfl) eqrow74 U U HUL.out HUL.out true (beq_self_eq_true U) (by rfl) (by rfl))
    try simp only [Act.put, List.setIfInBounds_toArray, List.set_cons_zero, List.set_cons_succ]
    refine wpAnyH_take (i := 12) (v := ?_) (by simp only [List.getElem?_toArray, List.getElem?_cons_succ, List.getElem?_cons_zero]; rfl) (by kernel_rfl) (by kernel_rfl) (by kernel_rfl) (fun _ _ _ h => h) (Or.inl ⟨by rfl, ?_⟩) (by assumption) ?_
    rotate_left
    · (intro wS hSw; (try dsimp only at hSw); go_simp; try with_reducible rfl)
    try simp only [Act.put, List.setIfInBounds_toArray, List.set_cons_zero, List.set_cons_succ]
    refine wpAnyH_take (i := 13) (v := ?_) (by simp only [List.getElem?_toArray, List.getElem?_cons_succ, List.getElem?_cons_zero]; rfl) (by kernel_rfl) (by kernel_rfl) (by kernel_rfl) (fun _ _ _ h => h) (Or.inl ⟨by rfl, ?_⟩) (by assumption) ?_
    rotate_left
    · (intro wS hSw; (try dsimp only at hSw); go_simp; try with_reducible rfl)
    try simp only [Act.put, List.setIfInBounds_toArray, List.set_cons_zero, List.set_cons_succ]
    refine wpAnyH_take (i := 14) (v := ?_) (by simp only [List.getElem?_toArray, List.getElem?_cons_succ, List.getElem?_cons_zero]; rfl) (by kernel_rfl) (by kernel_rfl) (by kernel_rfl) (fun _ _ _ h => h) (Or.inl ⟨by rfl, ?_⟩) (by assumption) ?_
    rotate_left
    · (intro wS hSw; (try dsimp only at hSw); go_simp; try with_reducible rfl)
    try simp only [Act.put, List.setIfInBounds_toArray, List.set_cons_zero, List.set_cons_succ]
    refine wpAnyH_take (i := 15) (v := ?_) (by simp only [List.getElem?_toArray, List.getElem?_cons_succ, List.getElem?_cons_zero]; rfl) (by kernel_rfl) (by kernel_rfl) (by kernel_rfl) (fun _ _ _ h => h) (Or.inl ⟨by rfl, ?_⟩) (by assumption) ?_
    rotate_left
    · (intro wS hSw; (try dsimp only at hSw); go_simp; try with_reducible rfl)
    try simp only [Act.put, List.setIfInBounds_toArray, List.set_cons_zero, List.set_cons_succ]
    refine wpAnyH_take (i := 16) (v := ?_) (by simp only [List.getElem?_toArray, List.getElem?_cons_succ, List.getElem?_cons_zero]; rfl) (by kernel_rfl) (by kernel_rfl) (by kernel_rfl) (fun _ _ _ h => h) (Or.inl ⟨by rfl, ?_⟩) (by assumption) ?_
    rotate_left
    · (intro wS hSw; (try dsimp only at hSw); go_simp; try with_reducible rfl)
    try simp only [Act.put, List.setIfInBounds_toArray, List.set_cons_zero, List.set_cons_succ]
    refine wpAnyH_take (i := 17) (v := ?_) (by simp only [List.getElem?_toArray, List.getElem?_cons_succ, List.getElem?_cons_zero]; rfl) (by kernel_rfl) (by kernel_rfl) (by kernel_rfl) (fun _ _ _ h => h) (Or.inl ⟨by rfl, ?_⟩) (by assumption) ?_
    rotate_left
    · (intro wS hSw; (try dsimp only at hSw); go_simp; try with_reducible rfl)
    try simp only [Act.put, List.setIfInBounds_toArray, List.set_cons_zero, List.set_cons_succ]
    refine wpAnyH_take (i := 18) (v := ?_) (by simp only [List.getElem?_toArray, List.getElem?_cons_succ, List.getElem?_cons_zero]; rfl) (by kernel_rfl) (by kernel_rfl) (by kernel_rfl) (fun _ _ _ h => h) (Or.inl ⟨by rfl, ?_⟩) (by assumption) ?_
    rotate_left
    · (intro wS hSw; (try dsimp only at hSw); go_simp; try with_reducible rfl)
    try simp only [Act.put, List.setIfInBounds_toArray, List.set_cons_zero, List.set_cons_succ]
    refine wpAnyH_take (i := 19) (v := ?_) (by simp only [List.getElem?_toArray, List.getElem?_cons_succ, List.getElem?_cons_zero]; rfl) (by kernel_rfl) (by kernel_rfl) (by kernel_rfl) (fun _ _ _ h => h) (Or.inl ⟨by rfl, ?_⟩) (by assumption) ?_
    rotate_left
    · (intro wS hSw; (try dsimp only at hSw); go_simp; try with_reducible rfl)
    try simp only [Act.put, List.setIfInBounds_toArray, List.set_cons_zero, List.set_cons_succ]
    refine wpAnyH_take (i := 20) (v := ?_) (by simp only [List.getElem?_toArray, List.getElem?_cons_succ, List.getElem?_cons_zero]; rfl) (by kernel_rfl) (by kernel_rfl) (by kernel_rfl) (fun _ _ _ h => h) (Or.inl ⟨by rfl, ?_⟩) (by assumption) ?_
    rotate_left
    · (intro wS hSw; (try dsimp only at hSw); go_simp; try with_reducible rfl)
    try simp only [Act.put, List.setIfInBounds_toArray, List.set_cons_zero, List.set_cons_succ]
    refine wpAnyH_take (i := 21) (v := ?_) (by simp only [List.getElem?_toArray, List.getElem?_cons_succ, List.getElem?_cons_zero]; rfl) (by kernel_rfl) (by kernel_rfl) (by kernel_rfl) (fun _ _ _ h => h) (Or.inl ⟨by rfl, ?_⟩) (by assumption) ?_
    rotate_left
    · (intro wS hSw; (try dsimp only at hSw); go_simp; try with_reducible rfl)
    try simp only [Act.put, List.setIfInBounds_toArray, List.set_cons_zero, List.set_cons_succ]
    refine wpAnyH_take (i := 22) (v := ?_) (by simp only [List.getElem?_toArray, List.getElem?_cons_succ, List.getElem?_cons_zero]; rfl) (by kernel_rfl) (by kernel_rfl) (by kernel_rfl) (fun _ _ _ h => h) (Or.inl ⟨by rfl, ?_⟩) (by assumption) ?_
    rotate_left
    · (intro wS hSw; (try dsimp only at hSw); go_simp; try with_reducible rfl)
    try simp only [Act.put, List.setIfInBounds_toArray, List.set_cons_zero, List.set_cons_succ]
    refine wpAnyH_take (i := 23) (v := ?_) (by simp only [List.getElem?_toArray, List.getElem?_cons_succ, List.getElem?_cons_zero]; rfl) (by kernel_rfl) (by kernel_rfl) (by kernel_rfl) (fun _ _ _ h => h) (Or.inl ⟨by rfl, ?_⟩) (by assumption) ?_
    rotate_left
    · (intro wS hSw; (try dsimp only at hSw); go_simp; try with_reducible rfl)
    try simp only [Act.put, List.setIfInBounds_toArray, List.set_cons_zero, List.set_cons_succ]
    refine wpAnyH_take (i := 24) (v := ?_) (by simp only [List.getElem?_toArray, List.getElem?_cons_succ, List.getElem?_cons_zero]; rfl) (by kernel_rfl) (by kernel_rfl) (by kernel_rfl) (fun _ _ _ h => h) (Or.inl ⟨by rfl, ?_⟩) (by assumption) ?_
    rotate_left
    · (intro wS hSw; (try dsimp only at hSw); go_simp; try with_reducible rfl)
    try simp only [Act.put, List.setIfInBounds_toArray, List.set_cons_zero, List.set_cons_succ]
    refine wpAnyH_take (i := 25) (v := ?_) (by simp only [List.getElem?_toArray, List.getElem?_cons_succ, List.getElem?_cons_zero]; rfl) (by kernel_rfl) (by kernel_rfl) (by kernel_rfl) (fun _ _ _ h => h) (Or.inl ⟨by rfl, ?_⟩) (by assumption) ?_
    rotate_left
    · (intro wS hSw; (try dsimp only at hSw); go_simp; try with_reducible rfl)
    try simp only [Act.put, List.setIfInBounds_toArray, List.set_cons_zero, List.set_cons_succ]
    refine wpAnyH_take (i := 26) (v := ?_) (by simp only [List.getElem?_toArray, List.getElem?_cons_succ, List.getElem?_cons_zero]; rfl) (by kernel_rfl) (by kernel_rfl) (by kernel_rfl) (fun _ _ _ h => h) (Or.inl ⟨by rfl, ?_⟩) (by assumption) ?_
    rotate_left
    · (intro wS hSw; (try dsimp only at hSw); go_simp; try with_reducible rfl)
    try simp only [Act.put, List.setIfInBounds_toArray, List.set_cons_zero, List.set_cons_succ]
    refine wpAnyH_take (i := 27) (v := ?_) (by simp only [List.getElem?_toArray, List.getElem?_cons_succ, List.getElem?_cons_zero]; rfl) (by kernel_rfl) (by kernel_rfl) (by kernel_rfl) (fun _ _ _ h => h) (Or.inl ⟨by rfl, ?_⟩) (by assumption) ?_
    rotate_left
    · (intro wS hSw; (try dsimp only at hSw); go_simp; try with_reducible rfl)
    try simp only [Act.put, List.setIfInBounds_toArray, List.set_cons_zero, List.set_cons_succ]
    refine wpAnyH_take (i := 28) (v := ?_) (by simp only [List.getElem?_toArray, List.getElem?_cons_succ, List.getElem?_cons_zero]; rfl) (by kernel_rfl) (by kernel_rfl) (by kernel_rfl) (fun _ _ _ h => h) (Or.inl ⟨by rfl, ?_⟩) (by assumption) ?_
    rotate_left
    · (intro wS hSw; (try dsimp only at hSw); go_simp; try with_reducible rfl)
    try simp only [Act.put, List.setIfInBounds_toArray, List.set_cons_zero, List.set_cons_succ]
    refine wpAnyH_take (i := 29) (v := ?_) (by simp only [List.getElem?_toArray, List.getElem?_cons_succ, List.getElem?_cons_zero]; rfl) (by kernel_rfl) (by kernel_rfl) (by kernel_rfl) (fun _ _ _ h => h) (Or.inl ⟨by rfl, ?_⟩) (by assumption) ?_
    rotate_left
    · (intro wS hSw; (try dsimp only at hSw); go_simp; try with_reducible rfl)
    try simp only [Act.put, List.setIfInBounds_toArray, List.set_cons_zero, List.set_cons_succ]
    refine wpAnyH_take (i := 30) (v := ?_) (by simp only [List.getElem?_toArray, List.getElem?_cons_succ, List.getElem?_cons_zero]; rfl) (by kernel_rfl) (by kernel_rfl) (by kernel_rfl) (fun _ _ _ h => h) (Or.inl ⟨by rfl, ?_⟩) (by assumption) ?_
    rotate_left
    · (intro wS hSw; (try dsimp only at hSw); go_simp; try with_reducible rfl)
    try simp only [Act.put, List.setIfInBounds_toArray, List.set_cons_zero, List.set_cons_succ]
    refine wpAnyH_take (i := 31) (v := ?_) (by simp only [List.getElem?_toArray, List.getElem?_cons_succ, List.getElem?_cons_zero]; rfl) (by kernel_rfl) (by kernel_rfl) (by kernel_rfl) (fun _ _ _ h => h) (Or.inl ⟨by rfl, ?_⟩) (by assumption) ?_
    rotate_left
    · (intro wS hSw; (try dsimp only at hSw); go_simp; try with_reducible rfl)
    try simp only [Act.put, List.setIfInBounds_toArray, List.set_cons_zero, List.set_cons_succ]
    refine wpAnyH_take (i := 32) (v := ?_) (by simp only [List.getElem?_toArray, List.getElem?_cons_succ, List.getElem?_cons_zero]; rfl) (by kernel_rfl) (by kernel_rfl) (by kernel_rfl) (fun _ _ _ h => h) (Or.inl ⟨by rfl, ?_⟩) (by assumption) ?_
    rotate_left
    · (intro wS hSw; (try dsimp only at hSw); go_simp; try with_reducible rfl)
    try simp only [Act.put, List.setIfInBounds_toArray, List.set_cons_zero, List.set_cons_succ]
    refine wpAnyH_take (i := 33) (v := ?_) (by simp only [List.getElem?_toArray, List.getElem?_cons_succ, List.getElem?_cons_zero]; rfl) (by kernel_rfl) (by kernel_rfl) (by kernel_rfl) (fun _ _ _ h => h) (Or.inl ⟨by rfl, ?_⟩) (by assumption) ?_
    rotate_left
    · (intro wS hSw; (try dsimp only at hSw); go_simp; try with_reducible rfl)
    try simp only [Act.put, List.setIfInBounds_toArray, List.set_cons_zero, List.set_cons_succ]
    refine wpAnyH_take (i := 34) (v := ?_) (by simp only [List.getElem?_toArray, List.getElem?_cons_succ, List.getElem?_cons_zero]; rfl) (by kernel_rfl) (by kernel_rfl) (by kernel_rfl) (fun _ _ _ h => h) (Or.inl ⟨by rfl, ?_⟩) (by assumption) ?_
    rotate_left
    · (intro wS hSw; (try dsimp only at hSw); go_simp; try with_reducible rfl)
    try simp only [Act.put, List.setIfInBounds_toArray, List.set_cons_zero, List.set_cons_succ]
    refine wpAnyH_take (i := 36) (v := ?_) (by simp only [List.getElem?_toArray, List.getElem?_cons_succ, List.getElem?_cons_zero]; rfl) (by kernel_rfl) (by kernel_rfl) (by kernel_rfl) (fun _ _ _ h => h) (Or.inl ⟨by rfl, ?_⟩) (by assumption) ?_
    rotate_left
    · (intro wS hSw; (try dsimp only at hSw); go_simp; try with_reducible rfl)
    try simp only [Act.put, List.setIfInBounds_toArray, List.set_cons_zero, List.set_cons_succ]
    refine wpAnyH_ready (rs := [35]) (by kernel_rfl) (by simp) ?_
    refine AllReadyH.cons (by simp only [List.getElem?_toArray, List.getElem?_cons_succ, List.getElem?_cons_zero]; rfl) (fun K hK => ?_) AllReadyH.nil
    go_simp
    refine (inode_Need.calls k n _ N1.out).mono ?_
    rintro e10 wb2 ⟨rfl, hD⟩
    have Bb2 := Aside0.mk (below_step hHeld hD.below)
    clear hD
    go_wp2_with fail
    refine hK.out _ _ ?_ (fun hHeld => ?_)
    · (try dsimp only); exact Bb2.out
    clear hK K
    try simp only [Act.put, List.setIfInBounds_toArray, List.set_cons_zero, List.set_cons_succ]
    refine wpAnyH_ready (rs := [37]) (by kernel_rfl) (by simp) ?_
    refine AllReadyH.cons (by simp only [List.getElem?_toArray, List.getElem?_cons_succ, List.getElem?_cons_zero]; rfl) (fun K hK => ?_) AllReadyH.nil
    go_simp
    refine (purlinref7_Need.calls k n _ N2.out).mono ?_
    rintro e11 wb3 ⟨rfl, hD⟩
    have Bb3 := Aside0.mk (below_step hHeld hD.below)
    clear hD
    go_wp2_with fail
    refine hK.out _ _ ?_ (fun hHeld => ?_)
    · (try dsimp only); exact Bb3.out
    clear hK K
    try simp only [Act.put, List.setIfInBounds_toArray, List.set_cons_zero, List.set_cons_succ]
    refine wpAnyH_take (i := 38) (v := ?_) (by simp only [List.getElem?_toArray, List.getElem?_cons_succ, List.getElem?_cons_zero]; rfl) (by kernel_rfl) (by kernel_rfl) (by kernel_rfl) (fun _ _ _ h => h) (Or.inl ⟨by rfl, ?_⟩) (by assumption) ?_
    rotate_left
    · (intro wS hSw; (try dsimp only at hSw); go_simp; try with_reducible rfl)
    try simp only [Act.put, List.setIfInBounds_toArray, List.set_cons_zero, List.set_cons_succ]
    refine wpAnyH_take (i := 39) (v := ?_) (by simp only [List.getElem?_toArray, List.getElem?_cons_succ, List.getElem?_cons_zero]; rfl) (by kernel_rfl) (by kernel_rfl) (by kernel_rfl) (fun _ _ _ h => h) (Or.inl ⟨by rfl, ?_⟩) (by assumption) ?_
    rotate_left
    · (intro wS hSw; (try dsimp only at hSw); go_simp; try with_reducible rfl)
    try simp only [Act.put, List.setIfInBounds_toArray, List.set_cons_zero, List.set_cons_succ]
    refine wpAnyH_take (i := 40) (v := ?_) (by simp only [List.getElem?_toArray, List.getElem?_cons_succ, List.getElem?_cons_zero]; rfl) (by kernel_rfl) (by kernel_rfl) (by kernel_rfl) (fun _ _ _ h => h) (Or.inl ⟨by rfl, ?_⟩) (by assumption) ?_
    rotate_left
    · (intro wS hSw; (try dsimp only at hSw); go_simp; try with_reducible rfl)
    try simp only [Act.put, List.setIfInBounds_toArray, List.set_cons_zero, List.set_cons_succ]
    refine wpAnyH_take (i := 41) (v := ?_) (by simp only [List.getElem?_toArray, List.getElem?_cons_succ, List.getElem?_cons_zero]; rfl) (by kernel_rfl) (by kernel_rfl) (by kernel_rfl) (fun _ _ _ h => h) (Or.inl ⟨by rfl, ?_⟩) (by assumption) ?_
    rotate_left
    · (intro wS hSw; (try dsimp only at hSw); go_simp; try with_reducible rfl)
    try simp only [Act.put, List.setIfInBounds_toArray, List.set_cons_zero, List.set_cons_succ]
    refine wpAnyH_take (i := 42) (v := .agg (nums .i64 ((is.drop 0).take 11)).toArray) (by simp only [List.getElem?_toArray, List.getElem?_cons_succ, List.getElem?_cons_zero]; rfl) (by kernel_rfl) (by kernel_rfl) (by kernel_rfl) (fun _ _ _ h => h) (Or.inl ⟨by rfl, ?_⟩) (by assumption) ?_
    · (intro wS hSw; (try dsimp only at hSw); exact load_mid_exec (by rfl) (KP.out.below hSw) (by rfl) row73 (by rw [HL.out]; omega))
    try simp only [Act.put, List.setIfInBounds_toArray, List.set_cons_zero, List.set_cons_succ]
    refine wpAnyH_take (i := 44) (v := ?_) (by simp only [List.getElem?_toArray, List.getElem?_cons_succ, List.getElem?_cons_zero]; rfl) (by kernel_rfl) (by kernel_rfl) (by kernel_rfl) (fun _ _ _ h => h) (Or.inl ⟨by rfl, ?_⟩) (by assumption) ?_
    rotate_left
    · (intro wS hSw; (try dsimp only at hSw); go_simp; try with_reducible rfl)
    try simp only [Act.put, List.setIfInBounds_toArray, List.set_cons_zero, List.set_cons_succ]
    refine wpAnyH_take (i := 45) (v := .agg (nums .i64 ((is.drop 0).take 11)).toArray) (by simp only [List.getElem?_toArray, List.getElem?_cons_succ, List.getElem?_cons_zero]; rfl) (by kernel_rfl) (by kernel_rfl) (by kernel_rfl) (fun _ _ _ h => h) (Or.inl ⟨by rfl, ?_⟩) (by assumption) ?_
    · (intro wS hSw; (try dsimp only at hSw); exact load_mid_exec (by rfl) (KP.out.below hSw) (by rfl) row73 (by rw [HL.out]; omega))
    try simp only [Act.put, List.setIfInBounds_toArray, List.set_cons_zero, List.set_cons_succ]
    refine wpAnyH_ready (rs := [43]) (by kernel_rfl) (by simp) ?_
    refine AllReadyH.cons (by simp only [List.getElem?_toArray, List.getElem?_cons_succ, List.getElem?_cons_zero]; rfl) (fun K hK => ?_) AllReadyH.nil
    go_simp
    refine (inode_May.calls ((is.drop 0).take 11) HC0.out _).mono ?_
    rintro e12 wb4 ⟨rfl, hB⟩
    have Bb4 := Aside0.mk (below_step hHeld hB)
    clear hB
    go_wp2_with fail
    refine hK.out _ _ ?_ (fun hHeld => ?_)
    · (try dsimp only); exact Bb4.out
    clear hK K
    try simp only [Act.put, List.setIfInBounds_toArray, List.set_cons_zero, List.set_cons_succ]
    refine wpAnyH_ready (rs := [46]) (by kernel_rfl) (by simp) ?_
    refine AllReadyH.cons (by simp only [List.getElem?_toArray, List.getElem?_cons_succ, List.getElem?_cons_zero]; rfl) (fun K hK => ?_) AllReadyH.nil
    go_simp
    refine (purlinref7_May.calls ((is.drop 0).take 11) HC0.out _).mono ?_
    rintro e13 wb5 ⟨rfl, hB⟩
    have Bb5 := Aside0.mk (below_step hHeld hB)
    clear hB
    go_wp2_with fail
    refine hK.out _ _ ?_ (fun hHeld => ?_)
    · (try dsimp only); exact Bb5.out
    clear hK K
    try simp only [Act.put, List.setIfInBounds_toArray, List.set_cons_zero, List.set_cons_succ]
    refine wpAnyH_take (i := 47) (v := ?_) (by simp only [List.getElem?_toArray, List.getElem?_cons_succ, List.getElem?_cons_zero]; rfl) (by kernel_rfl) (by kernel_rfl) (by kernel_rfl) (fun _ _ _ h => h) (Or.inl ⟨by rfl, ?_⟩) (by assumption) ?_
    rotate_left
    · (intro wS hSw; (try dsimp only at hSw); go_simp; try with_reducible rfl)
    try simp only [Act.put, List.setIfInBounds_toArray, List.set_cons_zero, List.set_cons_succ]
    refine wpAnyH_take (i := 48) (v := ?_) (by simp only [List.getElem?_toArray, List.getElem?_cons_succ, List.getElem?_cons_zero]; rfl) (by kernel_rfl) (by kernel_rfl) (by kernel_rfl) (fun _ _ _ h => h) (Or.inl ⟨by rfl, ?_⟩) (by assumption) ?_
    rotate_left
    · (intro wS hSw; (try dsimp only at hSw); go_simp; try with_reducible rfl)
    try simp only [Act.put, List.setIfInBounds_toArray, List.set_cons_zero, List.set_cons_succ]
    refine wpAnyH_take (i := 49) (v := ?_) (by simp only [List.getElem?_toArray, List.getElem?_cons_succ, List.getElem?_cons_zero]; rfl) (by kernel_rfl) (by kernel_rfl) (by kernel_rfl) (fun _ _ _ h => h) (Or.inl ⟨by rfl, ?_⟩) (by assumption) ?_
    rotate_left
    · (intro wS hSw; (try dsimp only at hSw); go_simp; try with_reducible rfl)
    try simp only [Act.put, List.setIfInBounds_toArray, List.set_cons_zero, List.set_cons_succ]
    refine wpAnyH_done (by kernel_rfl) ?_ _
    refine NoPanic.normal ?_
    have HX10 := Aside0.mk (Kd.R_below HX8.out hHeld)
    have B10w := Aside0.mk (below_step B8.out hHeld)
    clear hHeld
    go_wp2_with fail
    refine (purlinlaw0_OverBytes.calls 400 _ _ X w1 _ B10w.out HX10.out F11.out).mono ?_
    rintro e13 w13 ⟨rfl, hB, hK⟩
    have B13 := Aside0.mk hB
    clear hB hK HX10
    go_wp2_with fail
    refine (kept_calls g1 l2 _ _ w13 (L1.out.below B13.out) (Kd.C_below HR2.out (below_step B1.out B13.out)) HC2.out (by have := M2.out; omega) 400 F14.out).mono ?_
    rintro e15 w15 ⟨rfl, hD⟩
    have B15 := Aside0.mk (below_step B13.out hD)
    clear hD
    go_wp2_with fail
    refine (purlinlaw7_awake.calls w15).mono ?_
    rintro e17 w17 ⟨rfl, hD⟩
    have B17 := Aside0.mk (below_step B15.out hD)
    clear hD
    go_wp2
    go_ret
    exact ⟨rfl, below_step B1.out B17.out⟩
  · have d3 : decide (200 < (l2.length : Int)) = true := decide_eq_true (by omega)
    have d4 : decide (200 < l2.length) = true := decide_eq_true (by omega)
    clear hr2 hc2 m2 by2 hl
    go_enter Try.func18, Try.ntmps18
    go_wp2_with (first | ((with_reducible refine gate_dst (N := 3) rfl ?_); refine box_event ?hg3 (N := 3) ?hd3 (cs := (nums .i64 is).toArray) (t := 74) ?hr3 ?_; (case hd3 => rfl); (case hg3 => rfl); (case hr3 => first | (go_simp; done) | (go_simp; rfl)); intro g0 hg w0 hbox hb; have B0 := Aside0.mk (below_step HB0.out hb); have K0 := Aside0.mk (show HA w0 g0 74 .i64 is from hbox); clear hg hbox hb))
    refine (purlinlaw7_awake.calls w0).mono ?_
    rintro e17 w17 ⟨rfl, hD⟩
    have B1 := Aside0.mk (below_step B0.out hD)
    clear hD
    go_wp2
    go_ret
    exact ⟨rfl, B1.out⟩
theorem purlinlaw7_InodeTells.walk (is : List Int) (a2 : Option Addr) (len2 cap2 : Nat) (z2 : List Int) (k : Int) (w : World) (hl : is.length = 44) (hw : ∀ x ∈ is, (Lit.int .i64 x).wf = true)
    (w2 : (a2 = none ∧ len2 = 0 ∧ cap2 = 0 ∧ z2 = []) ∨ ∃ x, a2 = some x ∧ len2 ≤ cap2 ∧ cap2 ≤ maxLen ∧ z2.length = cap2 ∧ (∀ i, i < z2.length → w.cell? (x.add i) = some (.int .u8 (z2.getD i 0))) ∧ ∀ n ∈ z2, (Lit.int .u8 n).wf = true) (y2 : len2 * 1 ≤ 140737488351232) (w3 : (Lit.int .i64 k).wf = true) :
    Calls Try.prog 18 #[.agg (nums .i64 is).toArray, .slice a2 len2 cap2, .int .i64 k] w fun e w' => e = .returned (.bool true) ∧ Below w.heap.size w w' := by
  obtain ⟨l2, rfl, hr2, hm2, hw2, hc2⟩ := ReadsInt.ofRowC w2
  exact purlinlaw7_InodeTells.calls is hl _ _ l2 k w (Kd.C_of_reads (d := (0 : Int)) (h1 := fun _ => rfl) hr2) hc2 (By.of_wf hw2)
end Go.Proofs.Ytnhpmmmkcemnmaa.Pc
