/- The document's May of inodes: its walk, by hand. -/
import Derived.Test.YtnhpmmmkcemnmaaHk
namespace Go.Proofs.Ytnhpmmmkcemnmaa.Pc
open Go.RowKit Go.Proofs.YtnhpmmmkcemnmaaW.PrintWords Go.Proofs.YtnhpmmmkcemnmaaW.PrintLast Go.Proofs.YtnhpmmmkcemnmaaW.PrintMore
set_option linter.unusedVariables false
set_option linter.unusedSimpArgs false

theorem word_is (p : Int) : purlinref7_word.f p = some (wordB p) := by
  unfold purlinref7_word.f wordB
  by_cases h : p ≥ 0
  · rw [if_pos h]
    congr 1
    exact decide_eq_decide.2 (by omega)
  · rw [if_neg h, decide_eq_false (by omega)]
theorem may_parts {i : List Int} (hl : i.length = 11) (hz : (i == zero11) = false) : mayZ i = (((i.drop 3).take 6).all wordB && (wordB (i.getD 9 0) && (wordB (i.getD 10 0) && (decide (1 ≤ i.getD 0 0) && (decide (i.getD 0 0 ≤ 3) && (wordB (i.getD 1 0) && (decide (0 ≤ i.getD 2 0) && decide (i.getD 2 0 ≤ 20736)))))))) := by
  unfold mayZ
  rw [hz, Bool.false_or]
  obtain ⟨a0, a1, a2, a3, a4, a5, a6, a7, a8, a9, a10, rfl⟩ := list11 hl
  rw [Bool.eq_iff_iff]
  simp [List.all_cons, and_assoc]
set_option maxHeartbeats 6400000 in
set_option maxRecDepth 100000 in
theorem purlinref7_May.calls (i : List Int) (hl : i.length = 11) (w : World) :
    Calls Try.prog 72 #[.agg (nums .i64 i).toArray] w fun e w' => e = .returned (.bool (mayZ i)) ∧ Below w.heap.size w w' := by
  have HL := Aside0.mk hl
  have HB := Aside0.mk (Below.refl w.heap.size w)
  by_cases hz : (i == zero11) = true
  · have HM := Aside0.mk (show mayZ i = true from by unfold mayZ; rw [hz]; rfl)
    have HZ := Aside0.mk hz
    clear hl hz
    go_enter Try.func72, Try.ntmps72
    go_wp2_with (first | ((with_reducible refine gate_dst (N := 1) rfl ?_); refine box_event ?hg (N := 1) ?hd (cs := (nums .i64 i).toArray) (t := 73) ?hr ?_; (case hd => rfl); (case hg => rfl); (case hr => first | (go_simp; done) | (go_simp; rfl)); intro g0 hg w0 hbox hb; have B0 := Aside0.mk (below_step HB.out hb); have K0 := Aside0.mk (show HA w0 g0 73 .i64 i from hbox); clear hg hbox hb HB) | ((with_reducible refine gate_dst (N := 4) rfl ?_); refine load_row_event rfl _ rfl K0.out rfl (by rw [HL.out]; exact row73) ?_) | ((with_reducible refine gate_dst (N := 6) rfl ?_); refine eq_row_event rfl (.tmp 4) (.tmp 5) rfl eqrow73 i zero11 HL.out rfl true HZ.out rfl rfl ?_))
    go_ret
    exact ⟨by rw [HM.out]; rfl, B0.out⟩
  · replace hz := Bool.eq_false_iff.mpr hz
    have HZ := Aside0.mk hz
    have HM := Aside0.mk (may_parts hl hz)
    clear hl hz
    go_enter Try.func72, Try.ntmps72
    go_wp2_with (first | ((with_reducible refine gate_dst (N := 1) rfl ?_); refine box_event ?hg (N := 1) ?hd (cs := (nums .i64 i).toArray) (t := 73) ?hr ?_; (case hd => rfl); (case hg => rfl); (case hr => first | (go_simp; done) | (go_simp; rfl)); intro g0 hg w0 hbox hb; have B0 := Aside0.mk (below_step HB.out hb); have K0 := Aside0.mk (show HA w0 g0 73 .i64 i from hbox); clear hg hbox hb HB) | ((with_reducible refine gate_dst (N := 4) rfl ?_); refine load_row_event rfl _ rfl K0.out rfl (by rw [HL.out]; exact row73) ?_) | ((with_reducible refine gate_dst (N := 6) rfl ?_); refine eq_row_event rfl (.tmp 4) (.tmp 5) rfl eqrow73 i zero11 HL.out rfl false HZ.out rfl rfl ?_))
    go_loopg [3] 6 (fun gk v3 w' => ∃ k : Nat, v3 = .int .i64 (k : Int) ∧ Aside0 (k + gk = 6) ∧ Aside0 ((((i.drop 3).take 6).take k).all wordB = true) ∧ Aside0 (Below w0.heap.size w0 w'))
    case atStart => exact ⟨0, rfl, ⟨rfl⟩, ⟨rfl⟩, ⟨Below.refl _ _⟩⟩
    case round =>
      obtain ⟨k, rfl, HK, HW, HBr⟩ := hrel
      have hk := HK.out
      cases gk with
      | succ m =>
        have d1 : decide ((k : Int) < 6) = true := decide_eq_true (by omega)
        have d2 : (0 : Int) ≤ (k : Int) := by omega
        have d3 : (k : Int) < 6 := by omega
        have HK6 := Aside0.mk (show k < 6 from by omega)
        have hc := pw_cell HBr.out (K0.out.cell (3 + k) (by rw [HL.out]; have := HK6.out; omega)) K0.out.lt
        have HKL := Aside0.mk (show k < ((i.drop 3).take 6).length from by rw [List.length_take, List.length_drop, HL.out]; have := HK6.out; omega)
        obtain ⟨p, hp⟩ : ∃ p, p = i.getD (3 + k) 0 := ⟨_, rfl⟩
        rw [← hp] at hc
        have HP := Aside0.mk (show p = ((i.drop 3).take 6).getD k 0 from by rw [hp, List.getD_eq_getElem?_getD, List.getD_eq_getElem?_getD, List.getElem?_take, if_pos HK6.out, List.getElem?_drop])
        clear hk hp
        cases hw : wordB p with
        | true =>
          have FB := Aside0.mk (show purlinref7_word.f p = some true from by rw [word_is, hw])
          have HW2 := Aside0.mk (show (((i.drop 3).take 6).take (k + 1)).all wordB = true from words_take HKL.out HW.out (by rw [← HP.out]; exact hw))
          clear hw
          go_wp2_with fail
          refine (purlinref7_word.calls p true _ FB.out).mono ?_
          rintro e2 w2 ⟨rfl, hD⟩
          have HB2 := Aside0.mk (below_step HBr.out hD.below)
          clear hD hc
          go_wp2
          go_roundg m
          case measure => have := HK.out; omega
          case rel => exact ⟨k + 1, by first | rfl | go_num, ⟨by have := HK.out; omega⟩, HW2, HB2⟩
        | false =>
          have FB := Aside0.mk (show purlinref7_word.f p = some false from by rw [word_is, hw])
          have HM2 := Aside0.mk (show mayZ i = false from by rw [HM.out, words_no HKL.out (by rw [← HP.out]; exact hw)]; rfl)
          clear hw
          go_wp2_with fail
          refine (purlinref7_word.calls p false _ FB.out).mono ?_
          rintro e2 w2 ⟨rfl, hD⟩
          have HB2 := Aside0.mk (below_step B0.out (below_step HBr.out hD.below))
          clear hD hc
          go_wp2
          go_ret
          exact ⟨by rw [HM2.out]; rfl, HB2.out⟩
      | zero =>
        obtain rfl : k = 6 := by omega
        have d1 : decide (((6 : Nat) : Int) < 6) = false := by decide
        have h6 := HW.out
        rw [List.take_of_length_le (by rw [List.length_take, List.length_drop, HL.out]; omega)] at h6
        obtain ⟨a0, ha0⟩ : ∃ a, a = i.getD 0 0 := ⟨_, rfl⟩
        obtain ⟨a1, ha1⟩ : ∃ a, a = i.getD 1 0 := ⟨_, rfl⟩
        obtain ⟨a2, ha2⟩ : ∃ a, a = i.getD 2 0 := ⟨_, rfl⟩
        obtain ⟨a9, ha9⟩ : ∃ a, a = i.getD 9 0 := ⟨_, rfl⟩
        obtain ⟨a10, ha10⟩ : ∃ a, a = i.getD 10 0 := ⟨_, rfl⟩
        have HMP := Aside0.mk (show mayZ i = (decide (1 ≤ a0) && (decide (a0 ≤ 3) && (wordB a1 && (decide (0 ≤ a2) && (decide (a2 ≤ 20736) && (wordB a9 && wordB a10)))))) from by
          rw [HM.out, h6, ← ha0, ← ha1, ← ha2, ← ha9, ← ha10, Bool.true_and]
          generalize decide (1 ≤ a0) = c1
          generalize decide (a0 ≤ 3) = c2
          generalize wordB a1 = c3
          generalize decide (0 ≤ a2) = c4
          generalize decide (a2 ≤ 20736) = c5
          generalize wordB a9 = c6
          generalize wordB a10 = c7
          cases c1 <;> cases c2 <;> cases c3 <;> cases c4 <;> cases c5 <;> cases c6 <;> cases c7 <;> rfl)
        have HA0 := Aside0.mk ha0
        have HA1 := Aside0.mk ha1
        have HA2 := Aside0.mk ha2
        have HA9 := Aside0.mk ha9
        have HA10 := Aside0.mk ha10
        clear hk h6 ha0 ha1 ha2 ha9 ha10
        cases c1 : decide (1 ≤ a0) with
        | false =>
          have HMF := Aside0.mk (show mayZ i = false from by rw [HMP.out, c1]; simp)
          have hq0 := (show wr.cell? ⟨g0, 0, none⟩ = some (.int .i64 a0) from by have h := pw_cell HBr.out (K0.out.cell 0 (by rw [HL.out]; omega)) K0.out.lt; rw [← HA0.out] at h; exact h)
          have hq1 := (show wr.cell? ⟨g0, 1, none⟩ = some (.int .i64 a1) from by have h := pw_cell HBr.out (K0.out.cell 1 (by rw [HL.out]; omega)) K0.out.lt; rw [← HA1.out] at h; exact h)
          have hq2 := (show wr.cell? ⟨g0, 2, none⟩ = some (.int .i64 a2) from by have h := pw_cell HBr.out (K0.out.cell 2 (by rw [HL.out]; omega)) K0.out.lt; rw [← HA2.out] at h; exact h)
          have hq9 := (show wr.cell? ⟨g0, 9, none⟩ = some (.int .i64 a9) from by have h := pw_cell HBr.out (K0.out.cell 9 (by rw [HL.out]; omega)) K0.out.lt; rw [← HA9.out] at h; exact h)
          have hq10 := (show wr.cell? ⟨g0, 10, none⟩ = some (.int .i64 a10) from by have h := pw_cell HBr.out (K0.out.cell 10 (by rw [HL.out]; omega)) K0.out.lt; rw [← HA10.out] at h; exact h)
          go_wp2
          go_ret
          exact ⟨by rw [HMF.out]; rfl, below_step B0.out HBr.out⟩
        | true =>
          cases c2 : decide (a0 ≤ 3) with
          | false =>
            have HMF := Aside0.mk (show mayZ i = false from by rw [HMP.out, c1, c2]; simp)
            have hq0 := (show wr.cell? ⟨g0, 0, none⟩ = some (.int .i64 a0) from by have h := pw_cell HBr.out (K0.out.cell 0 (by rw [HL.out]; omega)) K0.out.lt; rw [← HA0.out] at h; exact h)
            have hq1 := (show wr.cell? ⟨g0, 1, none⟩ = some (.int .i64 a1) from by have h := pw_cell HBr.out (K0.out.cell 1 (by rw [HL.out]; omega)) K0.out.lt; rw [← HA1.out] at h; exact h)
            have hq2 := (show wr.cell? ⟨g0, 2, none⟩ = some (.int .i64 a2) from by have h := pw_cell HBr.out (K0.out.cell 2 (by rw [HL.out]; omega)) K0.out.lt; rw [← HA2.out] at h; exact h)
            have hq9 := (show wr.cell? ⟨g0, 9, none⟩ = some (.int .i64 a9) from by have h := pw_cell HBr.out (K0.out.cell 9 (by rw [HL.out]; omega)) K0.out.lt; rw [← HA9.out] at h; exact h)
            have hq10 := (show wr.cell? ⟨g0, 10, none⟩ = some (.int .i64 a10) from by have h := pw_cell HBr.out (K0.out.cell 10 (by rw [HL.out]; omega)) K0.out.lt; rw [← HA10.out] at h; exact h)
            go_wp2
            go_ret
            exact ⟨by rw [HMF.out]; rfl, below_step B0.out HBr.out⟩
          | true =>
            cases c3 : wordB a1 with
            | false =>
              have HMF := Aside0.mk (show mayZ i = false from by rw [HMP.out, c1, c2, c3]; simp)
              have Fc3 := Aside0.mk (show purlinref7_word.f a1 = some false from by rw [word_is, c3])
              have hq0 := (show wr.cell? ⟨g0, 0, none⟩ = some (.int .i64 a0) from by have h := pw_cell HBr.out (K0.out.cell 0 (by rw [HL.out]; omega)) K0.out.lt; rw [← HA0.out] at h; exact h)
              have hq1 := (show wr.cell? ⟨g0, 1, none⟩ = some (.int .i64 a1) from by have h := pw_cell HBr.out (K0.out.cell 1 (by rw [HL.out]; omega)) K0.out.lt; rw [← HA1.out] at h; exact h)
              have hq2 := (show wr.cell? ⟨g0, 2, none⟩ = some (.int .i64 a2) from by have h := pw_cell HBr.out (K0.out.cell 2 (by rw [HL.out]; omega)) K0.out.lt; rw [← HA2.out] at h; exact h)
              have hq9 := (show wr.cell? ⟨g0, 9, none⟩ = some (.int .i64 a9) from by have h := pw_cell HBr.out (K0.out.cell 9 (by rw [HL.out]; omega)) K0.out.lt; rw [← HA9.out] at h; exact h)
              have hq10 := (show wr.cell? ⟨g0, 10, none⟩ = some (.int .i64 a10) from by have h := pw_cell HBr.out (K0.out.cell 10 (by rw [HL.out]; omega)) K0.out.lt; rw [← HA10.out] at h; exact h)
              go_wp2_with fail
              refine (purlinref7_word.calls a1 false _ Fc3.out).mono ?_
              rintro ewc0 wc0 ⟨rfl, hD⟩
              have HBc0 := Aside0.mk (below_step HBr.out hD.below)
              clear hD hq0 hq1 hq2 hq9 hq10
              have hq0 := (show wc0.cell? ⟨g0, 0, none⟩ = some (.int .i64 a0) from by have h := pw_cell HBc0.out (K0.out.cell 0 (by rw [HL.out]; omega)) K0.out.lt; rw [← HA0.out] at h; exact h)
              have hq1 := (show wc0.cell? ⟨g0, 1, none⟩ = some (.int .i64 a1) from by have h := pw_cell HBc0.out (K0.out.cell 1 (by rw [HL.out]; omega)) K0.out.lt; rw [← HA1.out] at h; exact h)
              have hq2 := (show wc0.cell? ⟨g0, 2, none⟩ = some (.int .i64 a2) from by have h := pw_cell HBc0.out (K0.out.cell 2 (by rw [HL.out]; omega)) K0.out.lt; rw [← HA2.out] at h; exact h)
              have hq9 := (show wc0.cell? ⟨g0, 9, none⟩ = some (.int .i64 a9) from by have h := pw_cell HBc0.out (K0.out.cell 9 (by rw [HL.out]; omega)) K0.out.lt; rw [← HA9.out] at h; exact h)
              have hq10 := (show wc0.cell? ⟨g0, 10, none⟩ = some (.int .i64 a10) from by have h := pw_cell HBc0.out (K0.out.cell 10 (by rw [HL.out]; omega)) K0.out.lt; rw [← HA10.out] at h; exact h)
              go_wp2
              go_ret
              exact ⟨by rw [HMF.out]; rfl, below_step B0.out HBc0.out⟩
            | true =>
              have Fc3 := Aside0.mk (show purlinref7_word.f a1 = some true from by rw [word_is, c3])
              cases c4 : decide (0 ≤ a2) with
              | false =>
                have HMF := Aside0.mk (show mayZ i = false from by rw [HMP.out, c1, c2, c3, c4]; simp)
                have hq0 := (show wr.cell? ⟨g0, 0, none⟩ = some (.int .i64 a0) from by have h := pw_cell HBr.out (K0.out.cell 0 (by rw [HL.out]; omega)) K0.out.lt; rw [← HA0.out] at h; exact h)
                have hq1 := (show wr.cell? ⟨g0, 1, none⟩ = some (.int .i64 a1) from by have h := pw_cell HBr.out (K0.out.cell 1 (by rw [HL.out]; omega)) K0.out.lt; rw [← HA1.out] at h; exact h)
                have hq2 := (show wr.cell? ⟨g0, 2, none⟩ = some (.int .i64 a2) from by have h := pw_cell HBr.out (K0.out.cell 2 (by rw [HL.out]; omega)) K0.out.lt; rw [← HA2.out] at h; exact h)
                have hq9 := (show wr.cell? ⟨g0, 9, none⟩ = some (.int .i64 a9) from by have h := pw_cell HBr.out (K0.out.cell 9 (by rw [HL.out]; omega)) K0.out.lt; rw [← HA9.out] at h; exact h)
                have hq10 := (show wr.cell? ⟨g0, 10, none⟩ = some (.int .i64 a10) from by have h := pw_cell HBr.out (K0.out.cell 10 (by rw [HL.out]; omega)) K0.out.lt; rw [← HA10.out] at h; exact h)
                go_wp2_with fail
                refine (purlinref7_word.calls a1 true _ Fc3.out).mono ?_
                rintro ewc0 wc0 ⟨rfl, hD⟩
                have HBc0 := Aside0.mk (below_step HBr.out hD.below)
                clear hD hq0 hq1 hq2 hq9 hq10
                have hq0 := (show wc0.cell? ⟨g0, 0, none⟩ = some (.int .i64 a0) from by have h := pw_cell HBc0.out (K0.out.cell 0 (by rw [HL.out]; omega)) K0.out.lt; rw [← HA0.out] at h; exact h)
                have hq1 := (show wc0.cell? ⟨g0, 1, none⟩ = some (.int .i64 a1) from by have h := pw_cell HBc0.out (K0.out.cell 1 (by rw [HL.out]; omega)) K0.out.lt; rw [← HA1.out] at h; exact h)
                have hq2 := (show wc0.cell? ⟨g0, 2, none⟩ = some (.int .i64 a2) from by have h := pw_cell HBc0.out (K0.out.cell 2 (by rw [HL.out]; omega)) K0.out.lt; rw [← HA2.out] at h; exact h)
                have hq9 := (show wc0.cell? ⟨g0, 9, none⟩ = some (.int .i64 a9) from by have h := pw_cell HBc0.out (K0.out.cell 9 (by rw [HL.out]; omega)) K0.out.lt; rw [← HA9.out] at h; exact h)
                have hq10 := (show wc0.cell? ⟨g0, 10, none⟩ = some (.int .i64 a10) from by have h := pw_cell HBc0.out (K0.out.cell 10 (by rw [HL.out]; omega)) K0.out.lt; rw [← HA10.out] at h; exact h)
                go_wp2
                go_ret
                exact ⟨by rw [HMF.out]; rfl, below_step B0.out HBc0.out⟩
              | true =>
                cases c5 : decide (a2 ≤ 20736) with
                | false =>
                  have HMF := Aside0.mk (show mayZ i = false from by rw [HMP.out, c1, c2, c3, c4, c5]; simp)
                  have hq0 := (show wr.cell? ⟨g0, 0, none⟩ = some (.int .i64 a0) from by have h := pw_cell HBr.out (K0.out.cell 0 (by rw [HL.out]; omega)) K0.out.lt; rw [← HA0.out] at h; exact h)
                  have hq1 := (show wr.cell? ⟨g0, 1, none⟩ = some (.int .i64 a1) from by have h := pw_cell HBr.out (K0.out.cell 1 (by rw [HL.out]; omega)) K0.out.lt; rw [← HA1.out] at h; exact h)
                  have hq2 := (show wr.cell? ⟨g0, 2, none⟩ = some (.int .i64 a2) from by have h := pw_cell HBr.out (K0.out.cell 2 (by rw [HL.out]; omega)) K0.out.lt; rw [← HA2.out] at h; exact h)
                  have hq9 := (show wr.cell? ⟨g0, 9, none⟩ = some (.int .i64 a9) from by have h := pw_cell HBr.out (K0.out.cell 9 (by rw [HL.out]; omega)) K0.out.lt; rw [← HA9.out] at h; exact h)
                  have hq10 := (show wr.cell? ⟨g0, 10, none⟩ = some (.int .i64 a10) from by have h := pw_cell HBr.out (K0.out.cell 10 (by rw [HL.out]; omega)) K0.out.lt; rw [← HA10.out] at h; exact h)
                  go_wp2_with fail
                  refine (purlinref7_word.calls a1 true _ Fc3.out).mono ?_
                  rintro ewc0 wc0 ⟨rfl, hD⟩
                  have HBc0 := Aside0.mk (below_step HBr.out hD.below)
                  clear hD hq0 hq1 hq2 hq9 hq10
                  have hq0 := (show wc0.cell? ⟨g0, 0, none⟩ = some (.int .i64 a0) from by have h := pw_cell HBc0.out (K0.out.cell 0 (by rw [HL.out]; omega)) K0.out.lt; rw [← HA0.out] at h; exact h)
                  have hq1 := (show wc0.cell? ⟨g0, 1, none⟩ = some (.int .i64 a1) from by have h := pw_cell HBc0.out (K0.out.cell 1 (by rw [HL.out]; omega)) K0.out.lt; rw [← HA1.out] at h; exact h)
                  have hq2 := (show wc0.cell? ⟨g0, 2, none⟩ = some (.int .i64 a2) from by have h := pw_cell HBc0.out (K0.out.cell 2 (by rw [HL.out]; omega)) K0.out.lt; rw [← HA2.out] at h; exact h)
                  have hq9 := (show wc0.cell? ⟨g0, 9, none⟩ = some (.int .i64 a9) from by have h := pw_cell HBc0.out (K0.out.cell 9 (by rw [HL.out]; omega)) K0.out.lt; rw [← HA9.out] at h; exact h)
                  have hq10 := (show wc0.cell? ⟨g0, 10, none⟩ = some (.int .i64 a10) from by have h := pw_cell HBc0.out (K0.out.cell 10 (by rw [HL.out]; omega)) K0.out.lt; rw [← HA10.out] at h; exact h)
                  go_wp2
                  go_ret
                  exact ⟨by rw [HMF.out]; rfl, below_step B0.out HBc0.out⟩
                | true =>
                  cases c6 : wordB a9 with
                  | false =>
                    have HMF := Aside0.mk (show mayZ i = false from by rw [HMP.out, c1, c2, c3, c4, c5, c6]; simp)
                    have Fc6 := Aside0.mk (show purlinref7_word.f a9 = some false from by rw [word_is, c6])
                    have hq0 := (show wr.cell? ⟨g0, 0, none⟩ = some (.int .i64 a0) from by have h := pw_cell HBr.out (K0.out.cell 0 (by rw [HL.out]; omega)) K0.out.lt; rw [← HA0.out] at h; exact h)
                    have hq1 := (show wr.cell? ⟨g0, 1, none⟩ = some (.int .i64 a1) from by have h := pw_cell HBr.out (K0.out.cell 1 (by rw [HL.out]; omega)) K0.out.lt; rw [← HA1.out] at h; exact h)
                    have hq2 := (show wr.cell? ⟨g0, 2, none⟩ = some (.int .i64 a2) from by have h := pw_cell HBr.out (K0.out.cell 2 (by rw [HL.out]; omega)) K0.out.lt; rw [← HA2.out] at h; exact h)
                    have hq9 := (show wr.cell? ⟨g0, 9, none⟩ = some (.int .i64 a9) from by have h := pw_cell HBr.out (K0.out.cell 9 (by rw [HL.out]; omega)) K0.out.lt; rw [← HA9.out] at h; exact h)
                    have hq10 := (show wr.cell? ⟨g0, 10, none⟩ = some (.int .i64 a10) from by have h := pw_cell HBr.out (K0.out.cell 10 (by rw [HL.out]; omega)) K0.out.lt; rw [← HA10.out] at h; exact h)
                    go_wp2_with fail
                    refine (purlinref7_word.calls a1 true _ Fc3.out).mono ?_
                    rintro ewc0 wc0 ⟨rfl, hD⟩
                    have HBc0 := Aside0.mk (below_step HBr.out hD.below)
                    clear hD hq0 hq1 hq2 hq9 hq10
                    have hq0 := (show wc0.cell? ⟨g0, 0, none⟩ = some (.int .i64 a0) from by have h := pw_cell HBc0.out (K0.out.cell 0 (by rw [HL.out]; omega)) K0.out.lt; rw [← HA0.out] at h; exact h)
                    have hq1 := (show wc0.cell? ⟨g0, 1, none⟩ = some (.int .i64 a1) from by have h := pw_cell HBc0.out (K0.out.cell 1 (by rw [HL.out]; omega)) K0.out.lt; rw [← HA1.out] at h; exact h)
                    have hq2 := (show wc0.cell? ⟨g0, 2, none⟩ = some (.int .i64 a2) from by have h := pw_cell HBc0.out (K0.out.cell 2 (by rw [HL.out]; omega)) K0.out.lt; rw [← HA2.out] at h; exact h)
                    have hq9 := (show wc0.cell? ⟨g0, 9, none⟩ = some (.int .i64 a9) from by have h := pw_cell HBc0.out (K0.out.cell 9 (by rw [HL.out]; omega)) K0.out.lt; rw [← HA9.out] at h; exact h)
                    have hq10 := (show wc0.cell? ⟨g0, 10, none⟩ = some (.int .i64 a10) from by have h := pw_cell HBc0.out (K0.out.cell 10 (by rw [HL.out]; omega)) K0.out.lt; rw [← HA10.out] at h; exact h)
                    go_wp2_with fail
                    refine (purlinref7_word.calls a9 false _ Fc6.out).mono ?_
                    rintro ewc1 wc1 ⟨rfl, hD⟩
                    have HBc1 := Aside0.mk (below_step HBc0.out hD.below)
                    clear hD hq0 hq1 hq2 hq9 hq10
                    have hq0 := (show wc1.cell? ⟨g0, 0, none⟩ = some (.int .i64 a0) from by have h := pw_cell HBc1.out (K0.out.cell 0 (by rw [HL.out]; omega)) K0.out.lt; rw [← HA0.out] at h; exact h)
                    have hq1 := (show wc1.cell? ⟨g0, 1, none⟩ = some (.int .i64 a1) from by have h := pw_cell HBc1.out (K0.out.cell 1 (by rw [HL.out]; omega)) K0.out.lt; rw [← HA1.out] at h; exact h)
                    have hq2 := (show wc1.cell? ⟨g0, 2, none⟩ = some (.int .i64 a2) from by have h := pw_cell HBc1.out (K0.out.cell 2 (by rw [HL.out]; omega)) K0.out.lt; rw [← HA2.out] at h; exact h)
                    have hq9 := (show wc1.cell? ⟨g0, 9, none⟩ = some (.int .i64 a9) from by have h := pw_cell HBc1.out (K0.out.cell 9 (by rw [HL.out]; omega)) K0.out.lt; rw [← HA9.out] at h; exact h)
                    have hq10 := (show wc1.cell? ⟨g0, 10, none⟩ = some (.int .i64 a10) from by have h := pw_cell HBc1.out (K0.out.cell 10 (by rw [HL.out]; omega)) K0.out.lt; rw [← HA10.out] at h; exact h)
                    go_wp2
                    go_ret
                    exact ⟨by rw [HMF.out]; rfl, below_step B0.out HBc1.out⟩
                  | true =>
                    have Fc6 := Aside0.mk (show purlinref7_word.f a9 = some true from by rw [word_is, c6])
                    cases c7 : wordB a10 with
                    | false =>
                      have HMF := Aside0.mk (show mayZ i = false from by rw [HMP.out, c1, c2, c3, c4, c5, c6, c7]; simp)
                      have Fc7 := Aside0.mk (show purlinref7_word.f a10 = some false from by rw [word_is, c7])
                      have hq0 := (show wr.cell? ⟨g0, 0, none⟩ = some (.int .i64 a0) from by have h := pw_cell HBr.out (K0.out.cell 0 (by rw [HL.out]; omega)) K0.out.lt; rw [← HA0.out] at h; exact h)
                      have hq1 := (show wr.cell? ⟨g0, 1, none⟩ = some (.int .i64 a1) from by have h := pw_cell HBr.out (K0.out.cell 1 (by rw [HL.out]; omega)) K0.out.lt; rw [← HA1.out] at h; exact h)
                      have hq2 := (show wr.cell? ⟨g0, 2, none⟩ = some (.int .i64 a2) from by have h := pw_cell HBr.out (K0.out.cell 2 (by rw [HL.out]; omega)) K0.out.lt; rw [← HA2.out] at h; exact h)
                      have hq9 := (show wr.cell? ⟨g0, 9, none⟩ = some (.int .i64 a9) from by have h := pw_cell HBr.out (K0.out.cell 9 (by rw [HL.out]; omega)) K0.out.lt; rw [← HA9.out] at h; exact h)
                      have hq10 := (show wr.cell? ⟨g0, 10, none⟩ = some (.int .i64 a10) from by have h := pw_cell HBr.out (K0.out.cell 10 (by rw [HL.out]; omega)) K0.out.lt; rw [← HA10.out] at h; exact h)
                      go_wp2_with fail
                      refine (purlinref7_word.calls a1 true _ Fc3.out).mono ?_
                      rintro ewc0 wc0 ⟨rfl, hD⟩
                      have HBc0 := Aside0.mk (below_step HBr.out hD.below)
                      clear hD hq0 hq1 hq2 hq9 hq10
                      have hq0 := (show wc0.cell? ⟨g0, 0, none⟩ = some (.int .i64 a0) from by have h := pw_cell HBc0.out (K0.out.cell 0 (by rw [HL.out]; omega)) K0.out.lt; rw [← HA0.out] at h; exact h)
                      have hq1 := (show wc0.cell? ⟨g0, 1, none⟩ = some (.int .i64 a1) from by have h := pw_cell HBc0.out (K0.out.cell 1 (by rw [HL.out]; omega)) K0.out.lt; rw [← HA1.out] at h; exact h)
                      have hq2 := (show wc0.cell? ⟨g0, 2, none⟩ = some (.int .i64 a2) from by have h := pw_cell HBc0.out (K0.out.cell 2 (by rw [HL.out]; omega)) K0.out.lt; rw [← HA2.out] at h; exact h)
                      have hq9 := (show wc0.cell? ⟨g0, 9, none⟩ = some (.int .i64 a9) from by have h := pw_cell HBc0.out (K0.out.cell 9 (by rw [HL.out]; omega)) K0.out.lt; rw [← HA9.out] at h; exact h)
                      have hq10 := (show wc0.cell? ⟨g0, 10, none⟩ = some (.int .i64 a10) from by have h := pw_cell HBc0.out (K0.out.cell 10 (by rw [HL.out]; omega)) K0.out.lt; rw [← HA10.out] at h; exact h)
                      go_wp2_with fail
                      refine (purlinref7_word.calls a9 true _ Fc6.out).mono ?_
                      rintro ewc1 wc1 ⟨rfl, hD⟩
                      have HBc1 := Aside0.mk (below_step HBc0.out hD.below)
                      clear hD hq0 hq1 hq2 hq9 hq10
                      have hq0 := (show wc1.cell? ⟨g0, 0, none⟩ = some (.int .i64 a0) from by have h := pw_cell HBc1.out (K0.out.cell 0 (by rw [HL.out]; omega)) K0.out.lt; rw [← HA0.out] at h; exact h)
                      have hq1 := (show wc1.cell? ⟨g0, 1, none⟩ = some (.int .i64 a1) from by have h := pw_cell HBc1.out (K0.out.cell 1 (by rw [HL.out]; omega)) K0.out.lt; rw [← HA1.out] at h; exact h)
                      have hq2 := (show wc1.cell? ⟨g0, 2, none⟩ = some (.int .i64 a2) from by have h := pw_cell HBc1.out (K0.out.cell 2 (by rw [HL.out]; omega)) K0.out.lt; rw [← HA2.out] at h; exact h)
                      have hq9 := (show wc1.cell? ⟨g0, 9, none⟩ = some (.int .i64 a9) from by have h := pw_cell HBc1.out (K0.out.cell 9 (by rw [HL.out]; omega)) K0.out.lt; rw [← HA9.out] at h; exact h)
                      have hq10 := (show wc1.cell? ⟨g0, 10, none⟩ = some (.int .i64 a10) from by have h := pw_cell HBc1.out (K0.out.cell 10 (by rw [HL.out]; omega)) K0.out.lt; rw [← HA10.out] at h; exact h)
                      go_wp2_with fail
                      refine (purlinref7_word.calls a10 false _ Fc7.out).mono ?_
                      rintro ewc2 wc2 ⟨rfl, hD⟩
                      have HBc2 := Aside0.mk (below_step HBc1.out hD.below)
                      clear hD hq0 hq1 hq2 hq9 hq10
                      have hq0 := (show wc2.cell? ⟨g0, 0, none⟩ = some (.int .i64 a0) from by have h := pw_cell HBc2.out (K0.out.cell 0 (by rw [HL.out]; omega)) K0.out.lt; rw [← HA0.out] at h; exact h)
                      have hq1 := (show wc2.cell? ⟨g0, 1, none⟩ = some (.int .i64 a1) from by have h := pw_cell HBc2.out (K0.out.cell 1 (by rw [HL.out]; omega)) K0.out.lt; rw [← HA1.out] at h; exact h)
                      have hq2 := (show wc2.cell? ⟨g0, 2, none⟩ = some (.int .i64 a2) from by have h := pw_cell HBc2.out (K0.out.cell 2 (by rw [HL.out]; omega)) K0.out.lt; rw [← HA2.out] at h; exact h)
                      have hq9 := (show wc2.cell? ⟨g0, 9, none⟩ = some (.int .i64 a9) from by have h := pw_cell HBc2.out (K0.out.cell 9 (by rw [HL.out]; omega)) K0.out.lt; rw [← HA9.out] at h; exact h)
                      have hq10 := (show wc2.cell? ⟨g0, 10, none⟩ = some (.int .i64 a10) from by have h := pw_cell HBc2.out (K0.out.cell 10 (by rw [HL.out]; omega)) K0.out.lt; rw [← HA10.out] at h; exact h)
                      go_wp2
                      go_ret
                      exact ⟨by rw [HMF.out]; rfl, below_step B0.out HBc2.out⟩
                    | true =>
                      have HMF := Aside0.mk (show mayZ i = true from by rw [HMP.out, c1, c2, c3, c4, c5, c6, c7]; rfl)
                      have Fc7 := Aside0.mk (show purlinref7_word.f a10 = some true from by rw [word_is, c7])
                      have hq0 := (show wr.cell? ⟨g0, 0, none⟩ = some (.int .i64 a0) from by have h := pw_cell HBr.out (K0.out.cell 0 (by rw [HL.out]; omega)) K0.out.lt; rw [← HA0.out] at h; exact h)
                      have hq1 := (show wr.cell? ⟨g0, 1, none⟩ = some (.int .i64 a1) from by have h := pw_cell HBr.out (K0.out.cell 1 (by rw [HL.out]; omega)) K0.out.lt; rw [← HA1.out] at h; exact h)
                      have hq2 := (show wr.cell? ⟨g0, 2, none⟩ = some (.int .i64 a2) from by have h := pw_cell HBr.out (K0.out.cell 2 (by rw [HL.out]; omega)) K0.out.lt; rw [← HA2.out] at h; exact h)
                      have hq9 := (show wr.cell? ⟨g0, 9, none⟩ = some (.int .i64 a9) from by have h := pw_cell HBr.out (K0.out.cell 9 (by rw [HL.out]; omega)) K0.out.lt; rw [← HA9.out] at h; exact h)
                      have hq10 := (show wr.cell? ⟨g0, 10, none⟩ = some (.int .i64 a10) from by have h := pw_cell HBr.out (K0.out.cell 10 (by rw [HL.out]; omega)) K0.out.lt; rw [← HA10.out] at h; exact h)
                      go_wp2_with fail
                      refine (purlinref7_word.calls a1 true _ Fc3.out).mono ?_
                      rintro ewc0 wc0 ⟨rfl, hD⟩
                      have HBc0 := Aside0.mk (below_step HBr.out hD.below)
                      clear hD hq0 hq1 hq2 hq9 hq10
                      have hq0 := (show wc0.cell? ⟨g0, 0, none⟩ = some (.int .i64 a0) from by have h := pw_cell HBc0.out (K0.out.cell 0 (by rw [HL.out]; omega)) K0.out.lt; rw [← HA0.out] at h; exact h)
                      have hq1 := (show wc0.cell? ⟨g0, 1, none⟩ = some (.int .i64 a1) from by have h := pw_cell HBc0.out (K0.out.cell 1 (by rw [HL.out]; omega)) K0.out.lt; rw [← HA1.out] at h; exact h)
                      have hq2 := (show wc0.cell? ⟨g0, 2, none⟩ = some (.int .i64 a2) from by have h := pw_cell HBc0.out (K0.out.cell 2 (by rw [HL.out]; omega)) K0.out.lt; rw [← HA2.out] at h; exact h)
                      have hq9 := (show wc0.cell? ⟨g0, 9, none⟩ = some (.int .i64 a9) from by have h := pw_cell HBc0.out (K0.out.cell 9 (by rw [HL.out]; omega)) K0.out.lt; rw [← HA9.out] at h; exact h)
                      have hq10 := (show wc0.cell? ⟨g0, 10, none⟩ = some (.int .i64 a10) from by have h := pw_cell HBc0.out (K0.out.cell 10 (by rw [HL.out]; omega)) K0.out.lt; rw [← HA10.out] at h; exact h)
                      go_wp2_with fail
                      refine (purlinref7_word.calls a9 true _ Fc6.out).mono ?_
                      rintro ewc1 wc1 ⟨rfl, hD⟩
                      have HBc1 := Aside0.mk (below_step HBc0.out hD.below)
                      clear hD hq0 hq1 hq2 hq9 hq10
                      have hq0 := (show wc1.cell? ⟨g0, 0, none⟩ = some (.int .i64 a0) from by have h := pw_cell HBc1.out (K0.out.cell 0 (by rw [HL.out]; omega)) K0.out.lt; rw [← HA0.out] at h; exact h)
                      have hq1 := (show wc1.cell? ⟨g0, 1, none⟩ = some (.int .i64 a1) from by have h := pw_cell HBc1.out (K0.out.cell 1 (by rw [HL.out]; omega)) K0.out.lt; rw [← HA1.out] at h; exact h)
                      have hq2 := (show wc1.cell? ⟨g0, 2, none⟩ = some (.int .i64 a2) from by have h := pw_cell HBc1.out (K0.out.cell 2 (by rw [HL.out]; omega)) K0.out.lt; rw [← HA2.out] at h; exact h)
                      have hq9 := (show wc1.cell? ⟨g0, 9, none⟩ = some (.int .i64 a9) from by have h := pw_cell HBc1.out (K0.out.cell 9 (by rw [HL.out]; omega)) K0.out.lt; rw [← HA9.out] at h; exact h)
                      have hq10 := (show wc1.cell? ⟨g0, 10, none⟩ = some (.int .i64 a10) from by have h := pw_cell HBc1.out (K0.out.cell 10 (by rw [HL.out]; omega)) K0.out.lt; rw [← HA10.out] at h; exact h)
                      go_wp2_with fail
                      refine (purlinref7_word.calls a10 true _ Fc7.out).mono ?_
                      rintro ewc2 wc2 ⟨rfl, hD⟩
                      have HBc2 := Aside0.mk (below_step HBc1.out hD.below)
                      clear hD hq0 hq1 hq2 hq9 hq10
                      have hq0 := (show wc2.cell? ⟨g0, 0, none⟩ = some (.int .i64 a0) from by have h := pw_cell HBc2.out (K0.out.cell 0 (by rw [HL.out]; omega)) K0.out.lt; rw [← HA0.out] at h; exact h)
                      have hq1 := (show wc2.cell? ⟨g0, 1, none⟩ = some (.int .i64 a1) from by have h := pw_cell HBc2.out (K0.out.cell 1 (by rw [HL.out]; omega)) K0.out.lt; rw [← HA1.out] at h; exact h)
                      have hq2 := (show wc2.cell? ⟨g0, 2, none⟩ = some (.int .i64 a2) from by have h := pw_cell HBc2.out (K0.out.cell 2 (by rw [HL.out]; omega)) K0.out.lt; rw [← HA2.out] at h; exact h)
                      have hq9 := (show wc2.cell? ⟨g0, 9, none⟩ = some (.int .i64 a9) from by have h := pw_cell HBc2.out (K0.out.cell 9 (by rw [HL.out]; omega)) K0.out.lt; rw [← HA9.out] at h; exact h)
                      have hq10 := (show wc2.cell? ⟨g0, 10, none⟩ = some (.int .i64 a10) from by have h := pw_cell HBc2.out (K0.out.cell 10 (by rw [HL.out]; omega)) K0.out.lt; rw [← HA10.out] at h; exact h)
                      go_wp2
                      go_ret
                      exact ⟨by rw [HMF.out]; rfl, below_step B0.out HBc2.out⟩
end Go.Proofs.Ytnhpmmmkcemnmaa.Pc
