/- ptr.Lay and the document's: their walks, by hand. -/
import Derived.Test.YtnhpmmmkcemnmaaHp
import Derived.Test.YtnhpmmmkcemnmaaQp
import Derived.Test.YtnhpmmmkcemnmaaQr
import Derived.Deep.RegionHeld3
namespace Go.Proofs.Ytnhpmmmkcemnmaa.Pc
open Go.RowKit Go.Proofs.YtnhpmmmkcemnmaaW.PrintWords Go.Proofs.YtnhpmmmkcemnmaaW.PrintLast Go.Proofs.YtnhpmmmkcemnmaaW.PrintMore
set_option linter.unusedVariables false
set_option linter.unusedSimpArgs false

set_option maxHeartbeats 1600000 in
set_option maxRecDepth 100000 in
theorem ptr_Lay.calls (ps : List Int) (hl : ps.length = 12) (w : World) :
    Calls Try.prog 46 #[.agg (nums .i64 ps).toArray] w fun e w' => ∃ v : Value, e = .returned (.tuple #[v, .int .i64 (ptrLayZ ps).2]) ∧ Kd.R (Kd.int .u8) 5 w' w.heap.size (fun _ => True) v (ptrLayZ ps).1 ∧ Below w.heap.size w w' := by
  have HL := Aside0.mk hl
  have HB := Aside0.mk (Below.refl w.heap.size w)
  obtain ⟨X, e, hX⟩ : ∃ X e, ptrLayZ ps = (X, e) := ⟨_, _, rfl⟩
  rw [hX]
  have HX := Aside0.mk hX
  clear hl hX
  go_enter Try.func46, Try.ntmps46
  go_wp2_with (first | ((with_reducible refine gate_dst (N := 1) rfl ?_); refine box_event ?hg (N := 1) ?hd (cs := (nums .i64 ps).toArray) (t := 49) ?hr ?_; (case hd => rfl); (case hg => rfl); (case hr => first | (go_simp; done) | (go_simp; rfl)); intro g0 hg w0 hbox hb; have B0 := Aside0.mk (below_step HB.out hb); have K0 := Aside0.mk (show HA w0 g0 49 .i64 ps from hbox); clear hg hbox hb HB) | ((with_reducible refine gate_dst (N := 7) rfl ?_); refine load_row_event rfl _ rfl K0.out rfl (by rw [HL.out]; exact row49) ?_))
  go_loopg [4, 8] 12 (fun gk v4 v8 w' => ∃ k : Nat, v8 = .int .i64 (k : Int) ∧ Aside0 (k + gk = 12) ∧ Aside0 (ptrOk (ps.take k) = true) ∧ Aside0 (Kd.R (Kd.int .u8) 5 w' w.heap.size (fun _ => True) v4 (ptrBody (ps.take k))) ∧ Aside0 (Below w.heap.size w w'))
  case atStart => exact ⟨0, rfl, ⟨rfl⟩, ⟨rfl⟩, ⟨Kd.R_nil _ _ _ _ _⟩, B0⟩
  case round =>
    clear B0 K0
    obtain ⟨k, rfl, HK, HOK, HR, HB⟩ := hrel
    have hk := HK.out
    cases gk with
    | zero =>
      obtain rfl : k = 12 := by omega
      have HT := Aside0.mk (show ps.take 12 = ps by rw [← HL.out, List.take_length])
      clear hk
      rw [HT.out] at HOK HR
      have HY := Aside0.mk (show X = sealZ 80 (ptrBody ps) ∧ e = 0 from by
        have h := HX.out
        rw [ptrLayZ, if_pos HOK.out] at h
        exact ⟨(Prod.mk.inj h).1.symm, (Prod.mk.inj h).2.symm⟩)
      obtain ⟨A, c, rfl⟩ := Kd.R_slice HR.out
      have F := Aside0.mk (seal_Seal.yes 80 (ptrBody ps) (by omega) (by omega) (by omega) (ptrBody_by HOK.out) (by rw [ptrBody_len, HL.out]; omega) 400 (by omega))
      have hR := Kd.R_reads' HR.out
      have HC := Aside0.mk hR.2.2
      have HC2 := Aside0.mk hR.2.1
      clear hR
      go_wp2_with fail
      refine (seal_Seal.calls 400 80 _ _ (ptrBody ps) _ 0 _ HC.out HC2.out F.out).mono ?_
      rintro e1 w1 ⟨vx, rfl, hx, hB⟩
      have HX1 := Aside0.mk (Kd.R_lower hx HB.out.size)
      have B1 := Aside0.mk (below_step HB.out hB)
      clear hx hB
      obtain ⟨hy1, hy2⟩ := HY.out
      subst hy1
      subst hy2
      go_wp2
      go_ret2
      exact ⟨_, rfl, HX1.out, B1.out⟩
    | succ m =>
      have d1 : decide ((k : Int) < 12) = true := decide_eq_true (by omega)
      have d6 : (k : Int) < 12 := by omega
      have hix := index_arr_run Try.underlying49 ps k (by omega) HL.out
      obtain ⟨p, hp⟩ : ∃ p, p = ps.getD k 0 := ⟨_, rfl⟩
      rw [← hp] at hix
      have HP := Aside0.mk hp
      have HKL := Aside0.mk (show k < ps.length from by rw [HL.out]; omega)
      clear hp hk
      by_cases c1 : p < 0
      · have d2 : decide (p < 0) = true := decide_eq_true c1
        have HY := Aside0.mk (show ptrLayZ ps = ([], 2) from by
          rw [ptrLayZ, if_neg]
          rw [ptrOk_take_no HKL.out (by rw [← HP.out]; exact Bool.eq_false_iff.mpr (fun h => by have := wordB_is.1 h; omega))]
          exact Bool.false_ne_true)
        obtain ⟨rfl, rfl⟩ := Prod.mk.inj (HX.out.symm.trans HY.out)
        go_wp2
        go_ret2
        exact ⟨_, rfl, Kd.R_nil _ _ _ _ _, HB.out⟩
      · by_cases c2 : 65535 < p
        · have d2 : decide (p < 0) = false := decide_eq_false c1
          have d3 : decide (65535 < p) = true := decide_eq_true c2
          have HY := Aside0.mk (show ptrLayZ ps = ([], 2) from by
            rw [ptrLayZ, if_neg]
            rw [ptrOk_take_no HKL.out (by rw [← HP.out]; exact Bool.eq_false_iff.mpr (fun h => by have := wordB_is.1 h; omega))]
            exact Bool.false_ne_true)
          obtain ⟨rfl, rfl⟩ := Prod.mk.inj (HX.out.symm.trans HY.out)
          go_wp2
          go_ret2
          exact ⟨_, rfl, Kd.R_nil _ _ _ _ _, HB.out⟩
        · have d2 : decide (p < 0) = false := decide_eq_false c1
          have d3 : decide (65535 < p) = false := decide_eq_false c2
          have d4 : 0 ≤ p := by omega
          have d5 : p ≤ 65535 := by omega
          have HQ := Aside0.mk (show ptrOk (ps.take (k + 1)) = true from ptrOk_take_yes HKL.out HOK.out (by rw [← HP.out]; exact wordB_is.2 ⟨d4, d5⟩))
          clear c1 c2
          go_wp2_with (first | ((with_reducible refine gate_builtin (b := .append) (xs := #[.tmp 17, .tmp 23]) rfl ?_); refine append_lit_event (w0 := w) rfl (.tmp 17) (.tmp 23) rfl _ (ptrBody (ps.take k)) [p / 256, p % 256] rfl rfl HR.out HB.out (by rw [ptrBody_len, List.length_take]; have := HKL.out; have := HL.out; simp; omega) ?_; intro v1 w1 hr hb _hg _ha; have HR1 := Aside0.mk (show Kd.R (Kd.int .u8) 5 w1 w.heap.size (fun _ => True) v1 (ptrBody (ps.take (k + 1))) from by rw [ptrBody_take HKL.out, ← HP.out]; exact hr); have HB1 := Aside0.mk hb; clear hr hb _hg _ha HR HB))
          go_roundg m
          case measure => have := HK.out; omega
          case rel => exact ⟨k + 1, by first | rfl | go_num, ⟨by have := HK.out; omega⟩, HQ, HR1, HB1⟩
set_option maxHeartbeats 1600000 in
set_option maxRecDepth 100000 in
theorem purlinref8_Lay.calls (ps : List Int) (hl : ps.length = 12) (w : World) :
    Calls Try.prog 47 #[.agg (nums .i64 ps).toArray] w fun e w' => ∃ v : Value, e = .returned (.tuple #[v, .int .i64 (ptrLayZ ps).2]) ∧ Kd.R (Kd.int .u8) 5 w' w.heap.size (fun _ => True) v (ptrLayZ ps).1 ∧ Below w.heap.size w w' := by
  have HL := Aside0.mk hl
  have HB := Aside0.mk (Below.refl w.heap.size w)
  obtain ⟨X, e, hX⟩ : ∃ X e, ptrLayZ ps = (X, e) := ⟨_, _, rfl⟩
  rw [hX]
  have HX := Aside0.mk hX
  clear hl hX
  go_enter Try.func47, Try.ntmps47
  go_wp2_with (first | ((with_reducible refine gate_dst (N := 1) rfl ?_); refine box_event ?hg (N := 1) ?hd (cs := (nums .i64 ps).toArray) (t := 49) ?hr ?_; (case hd => rfl); (case hg => rfl); (case hr => first | (go_simp; done) | (go_simp; rfl)); intro g0 hg w0 hbox hb; have B0 := Aside0.mk (below_step HB.out hb); have K0 := Aside0.mk (show HA w0 g0 49 .i64 ps from hbox); have SW := Aside0.mk hb.size; clear hg hbox hb HB))
  go_loopg [4, 5] 12 (fun gk v4 v5 w' => ∃ k : Nat, v5 = .int .i64 (k : Int) ∧ Aside0 (k + gk = 12) ∧ Aside0 (ptrOk (ps.take k) = true) ∧ Aside0 (Kd.R (Kd.int .u8) 5 w' w0.heap.size (fun _ => True) v4 (ptrBody (ps.take k))) ∧ Aside0 (Below w0.heap.size w0 w'))
  case atStart => exact ⟨0, rfl, ⟨rfl⟩, ⟨rfl⟩, ⟨Kd.R_nil _ _ _ _ _⟩, ⟨Below.refl _ _⟩⟩
  case round =>
    obtain ⟨k, rfl, HK, HOK, HR, HB⟩ := hrel
    have hk := HK.out
    cases gk with
    | zero =>
      obtain rfl : k = 12 := by omega
      have HT := Aside0.mk (show ps.take 12 = ps by rw [← HL.out, List.take_length])
      clear hk
      rw [HT.out] at HOK HR
      have HY := Aside0.mk (show X = sealZ 80 (ptrBody ps) ∧ e = 0 from by
        have h := HX.out
        rw [ptrLayZ, if_pos HOK.out] at h
        exact ⟨(Prod.mk.inj h).1.symm, (Prod.mk.inj h).2.symm⟩)
      obtain ⟨A, c, rfl⟩ := Kd.R_slice HR.out
      have F := Aside0.mk (show purlinref2_Seal.f 400 80 (ptrBody ps) = some (sealZ 80 (ptrBody ps), 0) by
        rw [ref2_Seal.is 80 (ptrBody ps) (by omega) (by omega) (ptrBody_by HOK.out) 400 (by omega), if_neg (by rw [ptrBody_len, HL.out]; omega)])
      have hR := Kd.R_reads' HR.out
      have HC := Aside0.mk hR.2.2
      have HC2 := Aside0.mk hR.2.1
      clear hR
      go_wp2_with fail
      refine (purlinref2_Seal.calls 400 80 _ _ (ptrBody ps) _ 0 _ HC.out HC2.out F.out).mono ?_
      rintro e1 w1 ⟨vx, rfl, hx, hB⟩
      have HX1 := Aside0.mk (Kd.R_lower (Kd.R_lower hx HB.out.size) SW.out)
      have B1 := Aside0.mk (below_step B0.out (below_step HB.out hB))
      clear hx hB
      obtain ⟨hy1, hy2⟩ := HY.out
      subst hy1
      subst hy2
      go_wp2
      go_ret2
      exact ⟨_, rfl, HX1.out, B1.out⟩
    | succ m =>
      have d1 : decide ((k : Int) < 12) = true := decide_eq_true (by omega)
      have d6 : (k : Int) < 12 := by omega
      have d7 : (0 : Int) ≤ (k : Int) := by omega
      have hc := (K0.out.below0 HB.out K0.out.lt).cell k (by rw [HL.out]; omega)
      obtain ⟨p, hp⟩ : ∃ p, p = ps.getD k 0 := ⟨_, rfl⟩
      rw [← hp] at hc
      have HP := Aside0.mk hp
      have HKL := Aside0.mk (show k < ps.length from by rw [HL.out]; omega)
      clear hp hk
      by_cases c1 : p < 0
      · have d2 : decide (p < 0) = true := decide_eq_true c1
        have HY := Aside0.mk (show ptrLayZ ps = ([], 2) from by
          rw [ptrLayZ, if_neg]
          rw [ptrOk_take_no HKL.out (by rw [← HP.out]; exact Bool.eq_false_iff.mpr (fun h => by have := wordB_is.1 h; omega))]
          exact Bool.false_ne_true)
        obtain ⟨rfl, rfl⟩ := Prod.mk.inj (HX.out.symm.trans HY.out)
        go_wp2
        go_ret2
        exact ⟨_, rfl, Kd.R_nil _ _ _ _ _, below_step B0.out HB.out⟩
      · by_cases c2 : 65535 < p
        · have d2 : decide (p < 0) = false := decide_eq_false c1
          have d3 : decide (65535 < p) = true := decide_eq_true c2
          have HY := Aside0.mk (show ptrLayZ ps = ([], 2) from by
            rw [ptrLayZ, if_neg]
            rw [ptrOk_take_no HKL.out (by rw [← HP.out]; exact Bool.eq_false_iff.mpr (fun h => by have := wordB_is.1 h; omega))]
            exact Bool.false_ne_true)
          obtain ⟨rfl, rfl⟩ := Prod.mk.inj (HX.out.symm.trans HY.out)
          go_wp2
          go_ret2
          exact ⟨_, rfl, Kd.R_nil _ _ _ _ _, below_step B0.out HB.out⟩
        · have d2 : decide (p < 0) = false := decide_eq_false c1
          have d3 : decide (65535 < p) = false := decide_eq_false c2
          have d4 : 0 ≤ p := by omega
          have d5 : p ≤ 65535 := by omega
          have HQ := Aside0.mk (show ptrOk (ps.take (k + 1)) = true from ptrOk_take_yes HKL.out HOK.out (by rw [← HP.out]; exact wordB_is.2 ⟨d4, d5⟩))
          clear c1 c2
          go_wp2
          have hw1 : IntKind.u8.wrap (p / 256) = p / 256 := by show (p / 256) % 256 = p / 256; omega
          have hw2 : IntKind.u8.wrap p = p % 256 := rfl
          refine wp_region_noPanic ?_
          refine wp_region_held_drew (S := (fun w' => Below w0.heap.size w0 w')) (by kernel_rfl) ?_ (fun hHeld => ?_)
          · (try dsimp only); exact below_drew HB.out
          refine wpAnyH_take (i := 0) (v := ?_) (by simp only [List.getElem?_toArray, List.getElem?_cons_succ, List.getElem?_cons_zero]; rfl) (by kernel_rfl) (by kernel_rfl) (by kernel_rfl) (fun _ _ _ h => h) (Or.inl ⟨by rfl, ?_⟩) (by assumption) ?_
          rotate_left
          · (intro wS hSw; (try dsimp only at hSw); go_simp; try with_reducible rfl)
          try simp only [Act.put, List.setIfInBounds_toArray, List.set_cons_zero, List.set_cons_succ]
          refine wpAnyH_take (i := 1) (v := ?_) (by simp only [List.getElem?_toArray, List.getElem?_cons_succ, List.getElem?_cons_zero]; rfl) (by kernel_rfl) (by kernel_rfl) (by kernel_rfl) (fun _ _ _ h => h) (Or.inl ⟨by rfl, ?_⟩) (by assumption) ?_
          rotate_left
          · (intro wS hSw; (try dsimp only at hSw); go_simp; try with_reducible rfl)
          try simp only [Act.put, List.setIfInBounds_toArray, List.set_cons_zero, List.set_cons_succ]
          refine wpAnyH_take (i := 2) (v := ?_) (by simp only [List.getElem?_toArray, List.getElem?_cons_succ, List.getElem?_cons_zero]; rfl) (by kernel_rfl) (by kernel_rfl) (by kernel_rfl) (fun _ _ _ h => h) (Or.inl ⟨by rfl, ?_⟩) (by assumption) ?_
          rotate_left
          · (intro wS hSw; (try dsimp only at hSw); go_simp; try with_reducible rfl)
          try simp only [Act.put, List.setIfInBounds_toArray, List.set_cons_zero, List.set_cons_succ]
          refine wpAnyH_take (i := 3) (v := ?_) (by simp only [List.getElem?_toArray, List.getElem?_cons_succ, List.getElem?_cons_zero]; rfl) (by kernel_rfl) (by kernel_rfl) (by kernel_rfl) (fun _ _ _ h => h) (Or.inl ⟨by rfl, ?_⟩) (by assumption) ?_
          rotate_left
          · (intro wS hSw; (try dsimp only at hSw); have hc := ((K0.out.below0 hSw K0.out.lt).cell k (by rw [HL.out]; omega)); rw [← HP.out] at hc; go_simp; try with_reducible rfl)
          try simp only [Act.put, List.setIfInBounds_toArray, List.set_cons_zero, List.set_cons_succ]
          refine wpAnyH_take (i := 4) (v := ?_) (by simp only [List.getElem?_toArray, List.getElem?_cons_succ, List.getElem?_cons_zero]; rfl) (by kernel_rfl) (by kernel_rfl) (by kernel_rfl) (fun _ _ _ h => h) (Or.inl ⟨by rfl, ?_⟩) (by assumption) ?_
          rotate_left
          · (intro wS hSw; (try dsimp only at hSw); go_simp; try with_reducible rfl)
          try simp only [Act.put, List.setIfInBounds_toArray, List.set_cons_zero, List.set_cons_succ]
          refine wpAnyH_take (i := 5) (v := ?_) (by simp only [List.getElem?_toArray, List.getElem?_cons_succ, List.getElem?_cons_zero]; rfl) (by kernel_rfl) (by kernel_rfl) (by kernel_rfl) (fun _ _ _ h => h) (Or.inl ⟨by rfl, ?_⟩) (by assumption) ?_
          rotate_left
          · (intro wS hSw; (try dsimp only at hSw); go_simp; try with_reducible rfl)
          try simp only [Act.put, List.setIfInBounds_toArray, List.set_cons_zero, List.set_cons_succ]
          refine wpAnyH_take (i := 6) (v := ?_) (by simp only [List.getElem?_toArray, List.getElem?_cons_succ, List.getElem?_cons_zero]; rfl) (by kernel_rfl) (by kernel_rfl) (by kernel_rfl) (fun _ _ _ h => h) (Or.inl ⟨by rfl, ?_⟩) (by assumption) ?_
          rotate_left
          · (intro wS hSw; (try dsimp only at hSw); go_simp; try with_reducible rfl)
          try simp only [Act.put, List.setIfInBounds_toArray, List.set_cons_zero, List.set_cons_succ]
          refine wpAnyH_take (i := 7) (v := ?_) (by simp only [List.getElem?_toArray, List.getElem?_cons_succ, List.getElem?_cons_zero]; rfl) (by kernel_rfl) (by kernel_rfl) (by kernel_rfl) (fun _ _ _ h => h) (Or.inl ⟨by rfl, ?_⟩) (by assumption) ?_
          rotate_left
          · (intro wS hSw; (try dsimp only at hSw); go_simp; try with_reducible rfl)
          try simp only [Act.put, List.setIfInBounds_toArray, List.set_cons_zero, List.set_cons_succ]
          refine wpAnyH_take (i := 8) (v := ?_) (by simp only [List.getElem?_toArray, List.getElem?_cons_succ, List.getElem?_cons_zero]; rfl) (by kernel_rfl) (by kernel_rfl) (by kernel_rfl) (fun _ _ _ h => h) (Or.inl ⟨by rfl, ?_⟩) (by assumption) ?_
          rotate_left
          · (intro wS hSw; (try dsimp only at hSw); have hc := ((K0.out.below0 hSw K0.out.lt).cell k (by rw [HL.out]; omega)); rw [← HP.out] at hc; go_simp; try with_reducible rfl)
          try simp only [Act.put, List.setIfInBounds_toArray, List.set_cons_zero, List.set_cons_succ]
          refine wpAnyH_take (i := 9) (v := ?_) (by simp only [List.getElem?_toArray, List.getElem?_cons_succ, List.getElem?_cons_zero]; rfl) (by kernel_rfl) (by kernel_rfl) (by kernel_rfl) (fun _ _ _ h => h) (Or.inl ⟨by rfl, ?_⟩) (by assumption) ?_
          rotate_left
          · (intro wS hSw; (try dsimp only at hSw); go_simp; try with_reducible rfl)
          try simp only [Act.put, List.setIfInBounds_toArray, List.set_cons_zero, List.set_cons_succ]
          refine wpAnyH_ready (rs := [10]) (by kernel_rfl) (by simp) ?_
          refine AllReadyH.cons (by simp only [List.getElem?_toArray, List.getElem?_cons_succ, List.getElem?_cons_zero]; rfl) (fun K hK => ?_) AllReadyH.nil
          go_simp
          refine hK.out _ _ ?_ (fun hHeld => ?_)
          · (try dsimp only); exact below_alloc hHeld _
          clear hK K
          try simp only [Act.put, List.setIfInBounds_toArray, List.set_cons_zero, List.set_cons_succ]
          refine wpAnyH_ready (rs := [11]) (by kernel_rfl) (by simp) ?_
          refine AllReadyH.cons (by simp only [List.getElem?_toArray, List.getElem?_cons_succ, List.getElem?_cons_zero]; rfl) (fun K hK => ?_) AllReadyH.nil
          refine append_lit_step (w0 := w0) (by rfl) (.tmp 20) (.tmp 30) (by rfl) u4 (ptrBody (ps.take k)) [p / 256, p % 256] (by rfl) (by rfl) (Kd.R_drew HR.out) (below_drew HB.out) (by rw [ptrBody_len, List.length_take]; have := HKL.out; have := HL.out; simp; omega) ?_
          intro v1 w1 hr hb hg ha
          have HR1 := Aside0.mk (show Kd.R (Kd.int .u8) 5 w1 w0.heap.size (fun _ => True) v1 (ptrBody (ps.take (k + 1))) from by rw [ptrBody_take HKL.out, ← HP.out]; exact hr)
          have HB1 := Aside0.mk hb
          clear hr hb hg ha
          refine hK.out _ _ ?_ (fun hHeld => ?_)
          · (try dsimp only); exact HB1.out
          clear hK K
          try simp only [Act.put, List.setIfInBounds_toArray, List.set_cons_zero, List.set_cons_succ]
          refine wpAnyH_take (i := 12) (v := ?_) (by simp only [List.getElem?_toArray, List.getElem?_cons_succ, List.getElem?_cons_zero]; rfl) (by kernel_rfl) (by kernel_rfl) (by kernel_rfl) (fun _ _ _ h => h) (Or.inl ⟨by rfl, ?_⟩) (by assumption) ?_
          rotate_left
          · (intro wS hSw; (try dsimp only at hSw); go_simp; try with_reducible rfl)
          try simp only [Act.put, List.setIfInBounds_toArray, List.set_cons_zero, List.set_cons_succ]
          refine wpAnyH_done (by kernel_rfl) ?_ _
          refine NoPanic.normal ?_
          go_wp2
          go_roundg m
          case measure => have := HK.out; omega
          case rel => exact ⟨k + 1, by first | rfl | go_num, ⟨by have := HK.out; omega⟩, HQ, HR1, HB1⟩
end Go.Proofs.Ytnhpmmmkcemnmaa.Pc
