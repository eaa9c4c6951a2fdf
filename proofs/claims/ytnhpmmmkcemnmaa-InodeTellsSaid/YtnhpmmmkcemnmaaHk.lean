/- inode.May: its walk, by hand. -/
import Derived.Test.YtnhpmmmkcemnmaaHi
import Derived.Test.YtnhpmmmkcemnmaaHj
import Derived.Test.YtnhpmmmkcemnmaaQi
import Derived.Test.YtnhpmmmkcemnmaaPcx27
import Derived.Deep.RegionHeld3
namespace Go.Proofs.Ytnhpmmmkcemnmaa.Pc
open Go.RowKit Go.Proofs.YtnhpmmmkcemnmaaW.PrintWords Go.Proofs.YtnhpmmmkcemnmaaW.PrintLast Go.Proofs.YtnhpmmmkcemnmaaW.PrintMore
set_option linter.unusedVariables false
set_option linter.unusedSimpArgs false

theorem HA.reads {w : World} {g te : Nat} {cur : List Int} (h : HA w g te .i64 cur) (lo n : Nat) (hn : lo + n ≤ cur.length) (hm : n ≤ 9223372036854775807) : Kd.C (Kd.int .i64) w (some ⟨g, lo, none⟩) n ((cur.drop lo).take n) := by
  refine Kd.C_of_reads (d := 0) ⟨by simp; omega, hm, fun _ => ⟨_, rfl, fun j hj => ?_⟩⟩
  have h1 : (⟨g, lo, none⟩ : Addr).add j = ⟨g, lo + j, none⟩ := by unfold Addr.add; split <;> simp_all
  rw [h1, h.cell (lo + j) (by omega)]
  simp [List.getD_eq_getElem?_getD, List.getElem?_drop, hj]
theorem R_at64 {w : World} {base : Nat} {ok : Nat → Prop} {v : Value} {xs : List Int} (h : Kd.R (Kd.int .i64) 3 w base ok v xs) (h0 : 0 < xs.length) :
    ∃ g cap, v = .slice (some ⟨g, 0, none⟩) xs.length cap ∧ g < w.heap.size ∧ base ≤ g ∧ ∀ i, i < xs.length → w.cell? ⟨g, i, none⟩ = some (.int .i64 (xs.getD i 0)) := by
  have ho := Kd.own_of_R h
  obtain ⟨g, cap, hv, hb, hlt⟩ := ho.form h0
  refine ⟨g, cap, hv, hlt, hb, fun i hi => ?_⟩
  have := ho.cells (g := g) (by rw [hv]; rfl) i (Value.int .i64 (xs.getD i 0)) (by simp [encs, hi, List.getD_eq_getElem?_getD, List.getElem?_eq_getElem hi])
  rw [add_plain] at this
  exact this
theorem drop3 {i : List Int} (h : i.length = 11) : (i.drop 3).take 6 ++ [i[9]?.getD 0, i[10]?.getD 0] = i.drop 3 := by
  obtain ⟨a0, a1, a2, a3, a4, a5, a6, a7, a8, a9, a10, rfl⟩ := list11 h
  rfl
theorem words_take {l : List Int} {k : Nat} (hk : k < l.length) (h0 : (l.take k).all wordB = true) (h : wordB (l.getD k 0) = true) : (l.take (k + 1)).all wordB = true := ptrOk_take_yes hk h0 h
theorem words_no {l : List Int} {k : Nat} (hk : k < l.length) (h : wordB (l.getD k 0) = false) : l.all wordB = false := ptrOk_take_no hk h
theorem between_wordB (p : Int) : inode_between.f p 0 65535 = some (wordB p) := by
  unfold inode_between.f wordB
  by_cases h : p ≥ 0
  · rw [if_pos h]
    congr 1
    exact decide_eq_decide.2 (by omega)
  · rw [if_neg h, decide_eq_false (by omega)]
theorem between_dec (p lo hi : Int) : inode_between.f p lo hi = some (decide (lo ≤ p ∧ p ≤ hi)) := by
  unfold inode_between.f
  by_cases h : p ≥ lo
  · rw [if_pos h]
    congr 1
    exact decide_eq_decide.2 (by omega)
  · rw [if_neg h, decide_eq_false (by omega)]
set_option maxHeartbeats 3200000 in
set_option maxRecDepth 100000 in
theorem inode_May.calls (i : List Int) (hl : i.length = 11) (w : World) :
    Calls Try.prog 71 #[.agg (nums .i64 i).toArray] w fun e w' => e = .returned (.bool (mayZ i)) ∧ Below w.heap.size w w' := by
  have HL := Aside0.mk hl
  have HB := Aside0.mk (Below.refl w.heap.size w)
  by_cases hz : (i == zero11) = true
  · have HM := Aside0.mk (show mayZ i = true from by unfold mayZ; rw [hz]; rfl)
    have HZ := Aside0.mk hz
    clear hl hz
    go_enter Try.func71, Try.ntmps71
    go_wp2_with (first | ((with_reducible refine gate_dst (N := 1) rfl ?_); refine box_event ?hg (N := 1) ?hd (cs := (nums .i64 i).toArray) (t := 73) ?hr ?_; (case hd => rfl); (case hg => rfl); (case hr => first | (go_simp; done) | (go_simp; rfl)); intro g0 hg w0 hbox hb; have B0 := Aside0.mk (below_step HB.out hb); have K0 := Aside0.mk (show HA w0 g0 73 .i64 i from hbox); clear hg hbox hb HB) | ((with_reducible refine gate_dst (N := 5) rfl ?_); refine load_row_event rfl _ rfl K0.out rfl (by rw [HL.out]; exact row73) ?_) | ((with_reducible refine gate_dst (N := 7) rfl ?_); refine eq_row_event rfl (.tmp 5) (.tmp 6) rfl eqrow73 i zero11 HL.out rfl true HZ.out rfl rfl ?_))
    go_ret
    exact ⟨by rw [HM.out]; rfl, B0.out⟩
  · replace hz := Bool.eq_false_iff.mpr hz
    have HZ := Aside0.mk hz
    have HM := Aside0.mk (show mayZ i = ((i.drop 3).all wordB && decide (1 ≤ i.getD 0 0 ∧ i.getD 0 0 ≤ 3) && wordB (i.getD 1 0) && decide (0 ≤ i.getD 2 0 ∧ i.getD 2 0 ≤ 20736)) from by unfold mayZ; rw [hz]; rfl)
    clear hl hz
    go_enter Try.func71, Try.ntmps71
    go_wp2_with (first | ((with_reducible refine gate_dst (N := 1) rfl ?_); refine box_event ?hg (N := 1) ?hd (cs := (nums .i64 i).toArray) (t := 73) ?hr ?_; (case hd => rfl); (case hg => rfl); (case hr => first | (go_simp; done) | (go_simp; rfl)); intro g0 hg w0 hbox hb; have B0 := Aside0.mk (below_step HB.out hb); have K0 := Aside0.mk (show HA w0 g0 73 .i64 i from hbox); clear hg hbox hb HB) | ((with_reducible refine gate_dst (N := 5) rfl ?_); refine load_row_event rfl _ rfl K0.out rfl (by rw [HL.out]; exact row73) ?_) | ((with_reducible refine gate_dst (N := 7) rfl ?_); refine eq_row_event rfl (.tmp 5) (.tmp 6) rfl eqrow73 i zero11 HL.out rfl false HZ.out rfl rfl ?_))
    have GL := Aside0.mk K0.out.lt
    have C9 := Aside0.mk (K0.out.cell 9 (by rw [HL.out]; omega))
    have C10 := Aside0.mk (K0.out.cell 10 (by rw [HL.out]; omega))
    refine wp_region_noPanic ?_
    refine wp_region_held_drew (S := (fun w' => Below w0.heap.size w0 w')) (by kernel_rfl) ?_ (fun hHeld => ?_)
    · (try dsimp only); exact below_drew (Below.refl _ _)
    refine wpAnyH_take (i := 0) (v := ?_) (by simp only [List.getElem?_toArray, List.getElem?_cons_succ, List.getElem?_cons_zero]; rfl) (by kernel_rfl) (by kernel_rfl) (by kernel_rfl) (fun _ _ _ h => h) (Or.inl ⟨by rfl, ?_⟩) (by assumption) ?_
    rotate_left
    · (intro wS hSw; (try dsimp only at hSw); go_simp; try with_reducible rfl)
    try simp only [Act.put, List.setIfInBounds_toArray, List.set_cons_zero, List.set_cons_succ]
    refine wpAnyH_take (i := 1) (v := ?_) (by simp only [List.getElem?_toArray, List.getElem?_cons_succ, List.getElem?_cons_zero]; rfl) (by kernel_rfl) (by kernel_rfl) (by kernel_rfl) (fun _ _ _ h => h) (Or.inl ⟨by rfl, ?_⟩) (by assumption) ?_
    rotate_left
    · (intro wS hSw; (try dsimp only at hSw); go_simp; try with_reducible rfl)
    try simp only [Act.put, List.setIfInBounds_toArray, List.set_cons_zero, List.set_cons_succ]
    refine wpAnyH_take (i := 2) (v := ?_) (by simp only [List.getElem?_toArray, List.getElem?_cons_succ, List.getElem?_cons_zero]; rfl) (by kernel_rfl) (by kernel_rfl) (by kernel_rfl) (fun _ _ _ h => h) (Or.inl ⟨by rfl, ?_⟩) (by assumption) ?_
    rotate_left
    · (intro wS hSw; (try dsimp only at hSw); go_simp; try with_reducible rfl)
    try simp only [Act.put, List.setIfInBounds_toArray, List.set_cons_zero, List.set_cons_succ]
    refine wpAnyH_take (i := 3) (v := ?_) (by simp only [List.getElem?_toArray, List.getElem?_cons_succ, List.getElem?_cons_zero]; rfl) (by kernel_rfl) (by kernel_rfl) (by kernel_rfl) (fun _ _ _ h => h) (Or.inl ⟨by rfl, ?_⟩) (by assumption) ?_
    rotate_left
    · (intro wS hSw; (try dsimp only at hSw); have hc := pw_cell hSw C9.out GL.out; go_simp; try with_reducible rfl)
    try simp only [Act.put, List.setIfInBounds_toArray, List.set_cons_zero, List.set_cons_succ]
    refine wpAnyH_take (i := 4) (v := ?_) (by simp only [List.getElem?_toArray, List.getElem?_cons_succ, List.getElem?_cons_zero]; rfl) (by kernel_rfl) (by kernel_rfl) (by kernel_rfl) (fun _ _ _ h => h) (Or.inl ⟨by rfl, ?_⟩) (by assumption) ?_
    rotate_left
    · (intro wS hSw; (try dsimp only at hSw); go_simp; try with_reducible rfl)
    try simp only [Act.put, List.setIfInBounds_toArray, List.set_cons_zero, List.set_cons_succ]
    refine wpAnyH_take (i := 5) (v := ?_) (by simp only [List.getElem?_toArray, List.getElem?_cons_succ, List.getElem?_cons_zero]; rfl) (by kernel_rfl) (by kernel_rfl) (by kernel_rfl) (fun _ _ _ h => h) (Or.inl ⟨by rfl, ?_⟩) (by assumption) ?_
    rotate_left
    · (intro wS hSw; (try dsimp only at hSw); have hc := pw_cell hSw C10.out GL.out; go_simp; try with_reducible rfl)
    try simp only [Act.put, List.setIfInBounds_toArray, List.set_cons_zero, List.set_cons_succ]
    refine wpAnyH_take (i := 10) (v := ?_) (by simp only [List.getElem?_toArray, List.getElem?_cons_succ, List.getElem?_cons_zero]; rfl) (by kernel_rfl) (by kernel_rfl) (by kernel_rfl) (fun _ _ _ h => h) (Or.inl ⟨by rfl, ?_⟩) (by assumption) ?_
    rotate_left
    · (intro wS hSw; (try dsimp only at hSw); go_simp; try with_reducible rfl)
    try simp only [Act.put, List.setIfInBounds_toArray, List.set_cons_zero, List.set_cons_succ]
    refine wpAnyH_ready (rs := [6]) (by kernel_rfl) (by simp) ?_
    refine AllReadyH.cons (by simp only [List.getElem?_toArray, List.getElem?_cons_succ, List.getElem?_cons_zero]; rfl) (fun K hK => ?_) AllReadyH.nil
    go_simp
    refine hK.out _ _ ?_ (fun hHeld => ?_)
    · (try dsimp only); exact below_alloc hHeld _
    clear hK K
    try simp only [Act.put, List.setIfInBounds_toArray, List.set_cons_zero, List.set_cons_succ]
    refine wpAnyH_ready (rs := [7]) (by kernel_rfl) (by simp) ?_
    refine AllReadyH.cons (by simp only [List.getElem?_toArray, List.getElem?_cons_succ, List.getElem?_cons_zero]; rfl) (fun K hK => ?_) AllReadyH.nil
    go_simp
    refine hK.out _ _ ?_ (fun hHeld => ?_)
    · (try dsimp only); exact below_alloc hHeld _
    clear hK K
    try simp only [Act.put, List.setIfInBounds_toArray, List.set_cons_zero, List.set_cons_succ]
    refine wpAnyH_ready (rs := [8]) (by kernel_rfl) (by simp) ?_
    refine AllReadyH.cons (by simp only [List.getElem?_toArray, List.getElem?_cons_succ, List.getElem?_cons_zero]; rfl) (fun K hK => ?_) AllReadyH.nil
    go_simp
    refine (slices_Concat.calls' (w0.heap.size + 1) (some ⟨g0, 3, none⟩) (some ⟨w0.heap.size, 0, none⟩) 6 2 6 2 ((i.drop 3).take 6) [i[9]?.getD 0, i[10]?.getD 0] _ (by simp [HL.out]) rfl ?_ ?_ ?_ (by omega) (by omega)).mono ?_
    · exact heap_alloc2_new w0 _ _
    · exact (K0.out.below hHeld).reads 3 6 (by rw [HL.out]; omega) (by omega)
    · exact HA.reads (cur := [i[9]?.getD 0, i[10]?.getD 0]) (g := w0.heap.size) (te := 3) (heap_alloc2_old w0 _ _) 0 2 (by simp) (by omega)
    rintro e1 w1 ⟨v1, rfl, hr, hB⟩
    rw [drop3 HL.out] at hr
    obtain ⟨gv, cv, hv, hgl, _, hcell⟩ := R_at64 hr (by rw [List.length_drop, HL.out]; omega)
    rw [List.length_drop, HL.out] at hv hcell
    subst hv
    have GV := Aside0.mk hgl
    have HV := Aside0.mk hcell
    have B1 := Aside0.mk (below_step hHeld hB)
    have K1 := Aside0.mk (K0.out.below B1.out)
    clear hr hB hgl hcell
    go_wp2_with fail
    refine hK.out _ _ ?_ (fun hHeld => ?_)
    · (try dsimp only); exact B1.out
    clear hK K
    try simp only [Act.put, List.setIfInBounds_toArray, List.set_cons_zero, List.set_cons_succ]
    refine wpAnyH_take (i := 9) (v := ?_) (by simp only [List.getElem?_toArray, List.getElem?_cons_succ, List.getElem?_cons_zero]; rfl) (by kernel_rfl) (by kernel_rfl) (by kernel_rfl) (fun _ _ _ h => h) (Or.inl ⟨by rfl, ?_⟩) (by assumption) ?_
    rotate_left
    · (intro wS hSw; (try dsimp only at hSw); go_simp; try with_reducible rfl)
    try simp only [Act.put, List.setIfInBounds_toArray, List.set_cons_zero, List.set_cons_succ]
    refine wpAnyH_done (by kernel_rfl) ?_ _
    refine NoPanic.normal ?_
    clear hHeld C9 C10
    go_wp2
    go_loopg [18] 8 (fun gk v18 w' => ∃ k : Nat, v18 = .int .i64 (k : Int) ∧ Aside0 (k + gk = 8) ∧ Aside0 (((i.drop 3).take k).all wordB = true) ∧ Aside0 (Below w1.heap.size w1 w'))
    case atStart => exact ⟨0, rfl, ⟨rfl⟩, ⟨rfl⟩, ⟨Below.refl _ _⟩⟩
    case round =>
      obtain ⟨k, rfl, HK, HW, HBr⟩ := hrel
      have hk := HK.out
      cases gk with
      | succ m =>
        have d1 : decide ((k : Int) < 8) = true := decide_eq_true (by omega)
        have d2 : (0 : Int) ≤ (k : Int) := by omega
        have d3 : (k : Int) < 8 := by omega
        have hc := pw_cell HBr.out (HV.out k (by omega)) GV.out
        obtain ⟨p, hp⟩ : ∃ p, p = (i.drop 3).getD k 0 := ⟨_, rfl⟩
        rw [← hp] at hc
        have HP := Aside0.mk hp
        have HKL := Aside0.mk (show k < (i.drop 3).length from by rw [List.length_drop, HL.out]; omega)
        clear hk hp
        cases hw : wordB p with
        | true =>
          have FB := Aside0.mk (show inode_between.f p 0 65535 = some true from by rw [between_wordB, hw])
          have HW2 := Aside0.mk (show ((i.drop 3).take (k + 1)).all wordB = true from words_take HKL.out HW.out (by rw [← HP.out]; exact hw))
          clear hw
          go_wp2_with fail
          refine (inode_between.calls p 0 65535 true _ FB.out).mono ?_
          rintro e2 w2 ⟨rfl, hD⟩
          have HB2 := Aside0.mk (below_step HBr.out hD.below)
          clear hD hc
          go_wp2
          go_roundg m
          case measure => have := HK.out; omega
          case rel => exact ⟨k + 1, by first | rfl | go_num, ⟨by have := HK.out; omega⟩, HW2, HB2⟩
        | false =>
          have FB := Aside0.mk (show inode_between.f p 0 65535 = some false from by rw [between_wordB, hw])
          have HM2 := Aside0.mk (show mayZ i = false from by rw [HM.out, words_no HKL.out (by rw [← HP.out]; exact hw)]; simp)
          clear hw
          go_wp2_with fail
          refine (inode_between.calls p 0 65535 false _ FB.out).mono ?_
          rintro e2 w2 ⟨rfl, hD⟩
          have HB2 := Aside0.mk (below_step B0.out (below_step B1.out (below_step HBr.out hD.below)))
          clear hD hc
          go_wp2
          go_ret
          exact ⟨by rw [HM2.out]; rfl, HB2.out⟩
      | zero =>
        obtain rfl : k = 8 := by omega
        have d1 : decide (((8 : Nat) : Int) < 8) = false := by decide
        have HM2 := Aside0.mk (show mayZ i = (decide (1 ≤ i.getD 0 0 ∧ i.getD 0 0 ≤ 3) && wordB (i.getD 1 0) && decide (0 ≤ i.getD 2 0 ∧ i.getD 2 0 ≤ 20736)) from by
          have h := HW.out
          rw [List.take_of_length_le (by rw [List.length_drop, HL.out]; omega)] at h
          rw [HM.out, h, Bool.true_and])
        have hc0 := pw_cell HBr.out (K1.out.cell 0 (by rw [HL.out]; omega)) K1.out.lt
        obtain ⟨a0, ha0⟩ : ∃ a, a = i.getD 0 0 := ⟨_, rfl⟩
        obtain ⟨a1, ha1⟩ : ∃ a, a = i.getD 1 0 := ⟨_, rfl⟩
        obtain ⟨a2, ha2⟩ : ∃ a, a = i.getD 2 0 := ⟨_, rfl⟩
        rw [← ha0, ← ha1, ← ha2] at HM2
        rw [← ha0] at hc0
        have HA0 := Aside0.mk ha0
        have HA1 := Aside0.mk ha1
        have HA2 := Aside0.mk ha2
        have HC0 := Aside0.mk hc0
        clear hk ha0 ha1 ha2 hc0
        cases b1 : decide (1 ≤ a0 ∧ a0 ≤ 3) with
        | false =>
          have FB := Aside0.mk (show inode_between.f a0 1 3 = some false from by rw [between_dec, b1])
          have HM3 := Aside0.mk (show mayZ i = false from by rw [HM2.out, b1]; rfl)
          have hc0 := HC0.out
          clear b1
          go_wp2_with fail
          refine (inode_between.calls a0 1 3 false _ FB.out).mono ?_
          rintro e2 w2 ⟨rfl, hD⟩
          have HB2 := Aside0.mk (below_step HBr.out hD.below)
          clear hD hc0
          go_wp2
          go_ret
          exact ⟨by rw [HM3.out]; rfl, below_step B0.out (below_step B1.out HB2.out)⟩
        | true =>
          have FB := Aside0.mk (show inode_between.f a0 1 3 = some true from by rw [between_dec, b1])
          have HM3 := Aside0.mk (show mayZ i = (wordB a1 && decide (0 ≤ a2 ∧ a2 ≤ 20736)) from by rw [HM2.out, b1, Bool.true_and])
          have hc0 := HC0.out
          clear b1
          go_wp2_with fail
          refine (inode_between.calls a0 1 3 true _ FB.out).mono ?_
          rintro e2 w2 ⟨rfl, hD⟩
          have HB2 := Aside0.mk (below_step HBr.out hD.below)
          have hc1 := pw_cell HB2.out (K1.out.cell 1 (by rw [HL.out]; omega)) K1.out.lt
          rw [← HA1.out] at hc1
          clear hD hc0
          cases b2 : wordB a1 with
          | false =>
            have FB2 := Aside0.mk (show inode_between.f a1 0 65535 = some false from by rw [between_wordB, b2])
            have HM4 := Aside0.mk (show mayZ i = false from by rw [HM3.out, b2]; rfl)
            clear b2
            go_wp2_with fail
            refine (inode_between.calls a1 0 65535 false _ FB2.out).mono ?_
            rintro e3 w3 ⟨rfl, hD⟩
            have HB3 := Aside0.mk (below_step HB2.out hD.below)
            clear hD hc1
            go_wp2
            go_ret
            exact ⟨by rw [HM4.out]; rfl, below_step B0.out (below_step B1.out HB3.out)⟩
          | true =>
            have FB2 := Aside0.mk (show inode_between.f a1 0 65535 = some true from by rw [between_wordB, b2])
            have HM4 := Aside0.mk (show mayZ i = decide (0 ≤ a2 ∧ a2 ≤ 20736) from by rw [HM3.out, b2, Bool.true_and])
            clear b2
            go_wp2_with fail
            refine (inode_between.calls a1 0 65535 true _ FB2.out).mono ?_
            rintro e3 w3 ⟨rfl, hD⟩
            have HB3 := Aside0.mk (below_step HB2.out hD.below)
            have hc2 := pw_cell HB3.out (K1.out.cell 2 (by rw [HL.out]; omega)) K1.out.lt
            rw [← HA2.out] at hc2
            clear hD hc1
            obtain ⟨b, hb⟩ : ∃ b, b = decide (0 ≤ a2 ∧ a2 ≤ 20736) := ⟨_, rfl⟩
            rw [← hb] at HM4
            have FB3 := Aside0.mk (show inode_between.f a2 0 20736 = some b from by rw [between_dec, ← hb])
            clear hb
            go_wp2_with fail
            refine (inode_between.calls a2 0 20736 b _ FB3.out).mono ?_
            rintro e4 w4 ⟨rfl, hD⟩
            have HB4 := Aside0.mk (below_step HB3.out hD.below)
            clear hD hc2
            go_wp2
            go_ret
            exact ⟨by rw [HM4.out]; rfl, below_step B0.out (below_step B1.out HB4.out)⟩
end Go.Proofs.Ytnhpmmmkcemnmaa.Pc
