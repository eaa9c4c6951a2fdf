-- Laid by a program of this session (the kit's printer, with hand-written parts): not trusted: Lean checks it.
import Derived.Test.YtnhpmmmkcemnmaaPcx0
import Derived.Test.YtnhpmmmkcemnmaaPcx5
import Derived.Test.YtnhpmmmkcemnmaaPcx10
import Derived.Test.YtnhpmmmkcemnmaaPcx21
import Derived.Test.YtnhpmmmkcemnmaaPcx22
namespace Go.Proofs.Ytnhpmmmkcemnmaa.Pc
open Go.RowKit Go.Proofs.YtnhpmmmkcemnmaaW.PrintWords Go.Proofs.YtnhpmmmkcemnmaaW.PrintLast Go.Proofs.YtnhpmmmkcemnmaaW.PrintMore
attribute [local go_sem] max2_int min2_int max_two min_two max_three min_three max_four min_four   -- for this text's walks alone
set_option linter.unusedVariables false
set_option linter.unusedSimpArgs false

/-! ### purlinlaw0_SameInts: function 61 -/
def purlinlaw0_SameInts.l0 : Nat → List Int → List Int → Int → Option (Bool)
  | 0, _, _, _ => none
  | k + 1, x0, x1, x5 => if x5 < (x0.length : Int) then (if 0 ≤ x5 then (if x5 < (x1.length : Int) then (if (rd x0 x5) = (rd x1 x5) then (purlinlaw0_SameInts.l0 k x0 x1 (wrap64 (x5 + 1))) else (some false)) else (none)) else (none)) else (some true)
def purlinlaw0_SameInts.f (k : Nat) (l0 : List Int) (l1 : List Int) : Option (Bool) := if (l0.length : Int) = (l1.length : Int) then (purlinlaw0_SameInts.l0 k l0 l1 0) else (some false)
theorem purlinlaw0_SameInts.mono_l : ∀ k, (∀ y0 y1 y2, LeO (purlinlaw0_SameInts.l0 k y0 y1 y2) (purlinlaw0_SameInts.l0 (k + 1) y0 y1 y2))
  | 0 => fun _ _ _ r h => by simp [purlinlaw0_SameInts.l0] at h
  | k + 1 => by
    have ih0 := purlinlaw0_SameInts.mono_l k
    · intro y0 y1 y2
      unfold purlinlaw0_SameInts.l0
      repeat' first
      | (with_reducible exact ih0 _ _ _)
      | (with_reducible exact LeO.refl _)
      | (with_reducible exact LeO.none _)
      | (with_reducible refine LeO.ite ?_ ?_)
      | (with_reducible refine LeO.bind ?_ (fun _ => ?_))
      | exact ih0 _ _ _
      | exact LeO.none _
      | refine LeO.ite ?_ ?_
      | refine LeO.bind ?_ (fun _ => ?_)
theorem purlinlaw0_SameInts.mono : ∀ a0 a1 k, LeO (purlinlaw0_SameInts.f k a0 a1) (purlinlaw0_SameInts.f (k + 1) a0 a1) := by
  intro a0 a1 k
  have ih0 := purlinlaw0_SameInts.mono_l k
  unfold purlinlaw0_SameInts.f
  repeat' first
      | (with_reducible exact ih0 _ _ _)
      | (with_reducible exact LeO.refl _)
      | (with_reducible exact LeO.none _)
      | (with_reducible refine LeO.ite ?_ ?_)
      | (with_reducible refine LeO.bind ?_ (fun _ => ?_))
      | exact ih0 _ _ _
      | exact LeO.none _
      | refine LeO.ite ?_ ?_
      | refine LeO.bind ?_ (fun _ => ?_)
set_option maxHeartbeats 8000000 in
set_option maxRecDepth 100000 in
theorem purlinlaw0_SameInts.calls (k : Nat) (A0 : Option Addr) (c0 : Nat) (l0 : List Int) (A1 : Option Addr) (c1 : Nat) (l1 : List Int) (r : Bool) (w : World) (hr0 : Kd.C (Kd.int .i64) w A0 l0.length l0) (hc0 : l0.length ≤ c0) (hr1 : Kd.C (Kd.int .i64) w A1 l1.length l1) (hc1 : l1.length ≤ c1) (h : purlinlaw0_SameInts.f k l0 l1 = some r) :
    Calls Try.prog 61 #[.slice A0 l0.length c0, .slice A1 l1.length c1] w fun e w' => e = .returned (.bool r) ∧ Drawn0 w w' := by
  have HR0 := Aside0.mk hr0
  have HC0 := Aside0.mk hc0
  clear hr0 hc0
  have HR1 := Aside0.mk hr1
  have HC1 := Aside0.mk hc1
  clear hr1 hc1
  have H : (if (l0.length : Int) = (l1.length : Int) then (purlinlaw0_SameInts.l0 k l0 l1 0) else (some false)) = some r := h
  clear h
  by_cases c3 : (l0.length : Int) = (l1.length : Int)
  · rw [if_pos c3] at H
    have c3b0 : ((l0.length : Int) == (l1.length : Int)) = true := beq_iff_eq.mpr c3
    have c3b1 : ((l0.length : Int) != (l1.length : Int)) = false := bne_eq_false_iff_eq.mpr c3
    have c3b2 : (l0.length == l1.length) = true := by first | simpa using c3 | (simp at c3 ⊢; omega)
    clear c3
    have H' := Aside0.mk H
    clear H
    go_enter Try.func61, Try.ntmps61
    go_wp2
    repeat (go_quiet (fail); try go_wp2)
    go_loopg [5] k (fun kq v5 w' => ∃ (x5_1 : Int), v5 = .int .i64 x5_1 ∧ Aside0 (purlinlaw0_SameInts.l0 kq l0 l1 x5_1 = some r) ∧ Aside0 (kq ≤ k) ∧ Drawn0 w w')
    case atStart => exact ⟨(0), (by first | rfl | (simp; done) | (simp [*]; done)), H', ⟨Nat.le_refl _⟩, by repeat (first | exact Drawn0.refl _ | apply Drawn0.step)⟩
    case round =>
      clear H'
      try clear c1
      try clear p2
      try clear c3
      try clear c3b0
      try clear c3b1
      try clear c3b2
      obtain ⟨x5_1, rfl, HA, HK1, ⟨m1, rfl⟩⟩ := hrel
      cases gk with
      | zero => exact absurd HA.out (by simp [purlinlaw0_SameInts.l0])
      | succ k1 =>
        have H := HA.out
        clear HA
        simp only [purlinlaw0_SameInts.l0] at H
        by_cases c4 : x5_1 < (l0.length : Int)
        · rw [if_pos c4] at H
          have c4b0 : decide (x5_1 < (l0.length : Int)) = true := decide_eq_true c4
          clear c4
          by_cases c5 : 0 ≤ x5_1
          · rw [if_pos c5] at H
            have c5b0 : decide (0 ≤ x5_1) = true := decide_eq_true c5
            clear c5
            by_cases c6 : x5_1 < (l1.length : Int)
            · rw [if_pos c6] at H
              have c6b0 : decide (x5_1 < (l1.length : Int)) = true := decide_eq_true c6
              clear c6
              by_cases c7 : (rd l0 x5_1) = (rd l1 x5_1)
              · rw [if_pos c7] at H
                have c7b0 : ((rd l0 x5_1) == (rd l1 x5_1)) = true := beq_iff_eq.mpr c7
                have c7b1 : ((rd l0 x5_1) != (rd l1 x5_1)) = false := bne_eq_false_iff_eq.mpr c7
                clear c7
                have H' := Aside0.mk H
                clear H
                have p615 : 0 ≤ (x5_1 : Int) := of_decide_eq_true (by first | (with_reducible assumption) | assumption)
                have q615 : x5_1 < (l0.length : Int) := of_decide_eq_true (by first | (with_reducible assumption) | assumption)
                obtain ⟨ad615, e615, hx615_0⟩ := Kd.at_int HR0.out x5_1 p615 q615
                cases e615
                replace p615 := eq_true p615
                replace q615 := eq_true q615
                have p616 : 0 ≤ (x5_1 : Int) := of_decide_eq_true (by first | (with_reducible assumption) | assumption)
                have q616 : x5_1 < (l1.length : Int) := of_decide_eq_true (by first | (with_reducible assumption) | assumption)
                obtain ⟨ad616, e616, hx616_0⟩ := Kd.at_int HR1.out x5_1 p616 q616
                cases e616
                replace p616 := eq_true p616
                replace q616 := eq_true q616
                go_wp2
                repeat (go_quiet (fail); try go_wp2)
                go_roundg k1
                case measure => have := HK1.out; omega
                case rel => exact ⟨(wrap64 (x5_1 + 1)), (by first | rfl | (simp; done) | (simp [*]; done)), H', ⟨by have := HK1.out; omega⟩, by repeat (first | exact Drawn0.refl _ | apply Drawn0.step)⟩
              · rw [if_neg c7] at H
                have c7b0 : ((rd l0 x5_1) == (rd l1 x5_1)) = false := beq_eq_false_iff_ne.mpr c7
                have c7b1 : ((rd l0 x5_1) != (rd l1 x5_1)) = true := bne_iff_ne.mpr c7
                obtain rfl := Option.some.inj H
                have p615 : 0 ≤ (x5_1 : Int) := of_decide_eq_true (by first | (with_reducible assumption) | assumption)
                have q615 : x5_1 < (l0.length : Int) := of_decide_eq_true (by first | (with_reducible assumption) | assumption)
                obtain ⟨ad615, e615, hx615_0⟩ := Kd.at_int HR0.out x5_1 p615 q615
                cases e615
                replace p615 := eq_true p615
                replace q615 := eq_true q615
                have p616 : 0 ≤ (x5_1 : Int) := of_decide_eq_true (by first | (with_reducible assumption) | assumption)
                have q616 : x5_1 < (l1.length : Int) := of_decide_eq_true (by first | (with_reducible assumption) | assumption)
                obtain ⟨ad616, e616, hx616_0⟩ := Kd.at_int HR1.out x5_1 p616 q616
                cases e616
                replace p616 := eq_true p616
                replace q616 := eq_true q616
                go_wp2
                repeat (go_quiet (fail); try go_wp2)
                go_ret
                exact ⟨by first | rfl | (simp; done) | (simp [*]; done), by repeat (first | exact Drawn0.refl _ | apply Drawn0.step)⟩
            · rw [if_neg c6] at H
              exact absurd H (by simp)
          · rw [if_neg c5] at H
            exact absurd H (by simp)
        · rw [if_neg c4] at H
          have c4b0 : decide (x5_1 < (l0.length : Int)) = false := decide_eq_false c4
          clear c4
          obtain rfl := Option.some.inj H
          go_wp2
          repeat (go_quiet (fail); try go_wp2)
          go_ret
          exact ⟨by first | rfl | (simp; done) | (simp [*]; done), by repeat (first | exact Drawn0.refl _ | apply Drawn0.step)⟩
  · rw [if_neg c3] at H
    have c3b0 : ((l0.length : Int) == (l1.length : Int)) = false := beq_eq_false_iff_ne.mpr c3
    have c3b1 : ((l0.length : Int) != (l1.length : Int)) = true := bne_iff_ne.mpr c3
    have c3b2 : (l0.length == l1.length) = false := by first | simpa using c3 | (simp at c3 ⊢; omega)
    obtain rfl := Option.some.inj H
    go_enter Try.func61, Try.ntmps61
    go_wp2
    repeat (go_quiet (fail); try go_wp2)
    go_ret
    exact ⟨by first | rfl | (simp; done) | (simp [*]; done), by repeat (first | exact Drawn0.refl _ | apply Drawn0.step)⟩

/-! ### purlinlaw11_GroupWidths: function 17 -/
mutual
def purlinlaw11_GroupWidths.l0 : Nat → Int → Int → Int → Int → List Int → List Int → Int → Option (Bool)
  | 0, _, _, _, _, _, _, _ => none
  | k + 1, x0, x1, x2, x3, x9, x10, x11 => if x11 < 32 then (if 0 ≤ x11 then (if (Go.bits .and .i64 (shr .i64 x0 x11) 1) = 1 then (if x9.length < 17592186044416 then ((some (x9 ++ [x11] : List Int)).bind fun y619 => (if (Go.bits .and .i64 (shr .i64 x1 x11) 1) = 1 then (if x10.length < 17592186044416 then (purlinlaw11_GroupWidths.l0 k x0 x1 x2 x3 y619 (x10 ++ [wrap64 (3 * x11)]) (wrap64 (x11 + 1))) else (none)) else (purlinlaw11_GroupWidths.l0 k x0 x1 x2 x3 y619 x10 (wrap64 (x11 + 1))))) else (none)) else (if (Go.bits .and .i64 (shr .i64 x1 x11) 1) = 1 then (if x10.length < 17592186044416 then (purlinlaw11_GroupWidths.l0 k x0 x1 x2 x3 x9 (x10 ++ [wrap64 (3 * x11)]) (wrap64 (x11 + 1))) else (none)) else (purlinlaw11_GroupWidths.l0 k x0 x1 x2 x3 x9 x10 (wrap64 (x11 + 1))))) else (none)) else ((bits_Of.f k 32 x9).bind fun t628 => ((bits_Of.f k 96 x10).bind fun t631 => ((group_Lay.f k t628 t631).bind fun bt634 => ((group_Read.f k bt634.1 x2 x3).bind fun bt638 => (if (x9.length : Int) = 0 then (if (x10.length : Int) = 0 then (purlinlaw11_GroupWidths.j1 k x2 x3 x9 x10 bt634.2 bt638.1 bt638.2.1 bt638.2.2 true) else (if 0 ≤ (wrap64 ((x10.length : Int) - 1)) then (if (wrap64 ((x10.length : Int) - 1)) < (x10.length : Int) then (purlinlaw11_GroupWidths.j1 k x2 x3 x9 x10 bt634.2 bt638.1 bt638.2.1 bt638.2.2 (decide ((rd x10 (wrap64 ((x10.length : Int) - 1))) < x3))) else (none)) else (none))) else (if 0 ≤ (wrap64 ((x9.length : Int) - 1)) then (if (wrap64 ((x9.length : Int) - 1)) < (x9.length : Int) then (if (rd x9 (wrap64 ((x9.length : Int) - 1))) < x2 then (if (x10.length : Int) = 0 then (purlinlaw11_GroupWidths.j1 k x2 x3 x9 x10 bt634.2 bt638.1 bt638.2.1 bt638.2.2 true) else (if 0 ≤ (wrap64 ((x10.length : Int) - 1)) then (if (wrap64 ((x10.length : Int) - 1)) < (x10.length : Int) then (purlinlaw11_GroupWidths.j1 k x2 x3 x9 x10 bt634.2 bt638.1 bt638.2.1 bt638.2.2 (decide ((rd x10 (wrap64 ((x10.length : Int) - 1))) < x3))) else (none)) else (none))) else (purlinlaw11_GroupWidths.j1 k x2 x3 x9 x10 bt634.2 bt638.1 bt638.2.1 bt638.2.2 false)) else (none)) else (none)))))))
def purlinlaw11_GroupWidths.j1 : Nat → Int → Int → List Int → List Int → Int → List Int → List Int → Int → Bool → Option (Bool)
  | 0, _, _, _, _, _, _, _, _, _ => none
  | k + 1, x2, x3, x9, x10, x13, x14, x15, x16, x17 => if x13 = 0 then (purlinlaw11_GroupWidths.j2 k x2 x3 x9 x10 x14 x15 x17 ((x16 == 0) != x17)) else (purlinlaw11_GroupWidths.j2 k x2 x3 x9 x10 x14 x15 x17 true)
def purlinlaw11_GroupWidths.j2 : Nat → Int → Int → List Int → List Int → List Int → List Int → Bool → Bool → Option (Bool)
  | 0, _, _, _, _, _, _, _, _ => none
  | k + 1, x2, x3, x9, x10, x14, x15, x17, x98 => if x98 = true then (some false) else (if x17 = true then ((bits_All.f k x14 x2).bind fun t648 => ((purlinlaw0_SameInts.f k t648 x9).bind fun t651 => (if t651 = true then ((bits_All.f k x15 x3).bind fun t652 => ((purlinlaw0_SameInts.f k t652 x10).bind fun t655 => (if t655 = true then (if (x14.length : Int) = (wrap64 (Int.tdiv (wrap64 (x2 + 7)) 8)) then (if (x15.length : Int) = (wrap64 (Int.tdiv (wrap64 (x3 + 7)) 8)) then ((purlinlaw11_awake.f k).bind fun t656 => (some t656)) else (some false)) else (some false)) else (some false)))) else (some false)))) else ((purlinlaw11_awake.f k).bind fun t657 => (some t657)))
end
def purlinlaw11_GroupWidths.f (k : Nat) (a0 : Int) (a1 : Int) (a2 : Int) (a3 : Int) : Option (Bool) := (purlinlaw0_Low.f a2 29).bind fun t617 => ((purlinlaw0_Low.f a3 81).bind fun t618 => (purlinlaw11_GroupWidths.l0 k a0 a1 (wrap64 (4 + t617)) (wrap64 (16 + t618)) ([] : List Int) ([] : List Int) 0))
theorem purlinlaw11_GroupWidths.mono_l : ∀ k, (∀ y0 y1 y2 y3 y4 y5 y6, LeO (purlinlaw11_GroupWidths.l0 k y0 y1 y2 y3 y4 y5 y6) (purlinlaw11_GroupWidths.l0 (k + 1) y0 y1 y2 y3 y4 y5 y6)) ∧ (∀ y0 y1 y2 y3 y4 y5 y6 y7 y8, LeO (purlinlaw11_GroupWidths.j1 k y0 y1 y2 y3 y4 y5 y6 y7 y8) (purlinlaw11_GroupWidths.j1 (k + 1) y0 y1 y2 y3 y4 y5 y6 y7 y8)) ∧ (∀ y0 y1 y2 y3 y4 y5 y6 y7, LeO (purlinlaw11_GroupWidths.j2 k y0 y1 y2 y3 y4 y5 y6 y7) (purlinlaw11_GroupWidths.j2 (k + 1) y0 y1 y2 y3 y4 y5 y6 y7))
  | 0 => ⟨fun _ _ _ _ _ _ _ r h => by simp [purlinlaw11_GroupWidths.l0] at h, fun _ _ _ _ _ _ _ _ _ r h => by simp [purlinlaw11_GroupWidths.j1] at h, fun _ _ _ _ _ _ _ _ r h => by simp [purlinlaw11_GroupWidths.j2] at h⟩
  | k + 1 => by
    obtain ⟨ih0, ih1, ih2⟩ := purlinlaw11_GroupWidths.mono_l k
    refine ⟨?_, ?_, ?_⟩
    · intro y0 y1 y2 y3 y4 y5 y6
      unfold purlinlaw11_GroupWidths.l0
      repeat' first
      | (with_reducible exact ih0 _ _ _ _ _ _ _)
      | (with_reducible exact ih1 _ _ _ _ _ _ _ _ _)
      | (with_reducible exact ih2 _ _ _ _ _ _ _ _)
      | (with_reducible exact bits_All.mono _ _ _)
      | (with_reducible exact bits_Of.mono _ _ _)
      | (with_reducible exact group_Lay.mono _ _ _)
      | (with_reducible exact group_Read.mono _ _ _ _)
      | (with_reducible exact purlinlaw0_SameInts.mono _ _ _)
      | (with_reducible exact purlinlaw11_awake.mono _)
      | (with_reducible exact LeO.refl _)
      | (with_reducible exact LeO.none _)
      | (with_reducible refine LeO.ite ?_ ?_)
      | (with_reducible refine LeO.bind ?_ (fun _ => ?_))
      | exact ih0 _ _ _ _ _ _ _
      | exact ih1 _ _ _ _ _ _ _ _ _
      | exact ih2 _ _ _ _ _ _ _ _
      | exact bits_All.mono _ _ _
      | exact bits_Of.mono _ _ _
      | exact group_Lay.mono _ _ _
      | exact group_Read.mono _ _ _ _
      | exact purlinlaw0_SameInts.mono _ _ _
      | exact purlinlaw11_awake.mono _
      | exact LeO.none _
      | refine LeO.ite ?_ ?_
      | refine LeO.bind ?_ (fun _ => ?_)
    · intro y0 y1 y2 y3 y4 y5 y6 y7 y8
      unfold purlinlaw11_GroupWidths.j1
      repeat' first
      | (with_reducible exact ih0 _ _ _ _ _ _ _)
      | (with_reducible exact ih1 _ _ _ _ _ _ _ _ _)
      | (with_reducible exact ih2 _ _ _ _ _ _ _ _)
      | (with_reducible exact bits_All.mono _ _ _)
      | (with_reducible exact bits_Of.mono _ _ _)
      | (with_reducible exact group_Lay.mono _ _ _)
      | (with_reducible exact group_Read.mono _ _ _ _)
      | (with_reducible exact purlinlaw0_SameInts.mono _ _ _)
      | (with_reducible exact purlinlaw11_awake.mono _)
      | (with_reducible exact LeO.refl _)
      | (with_reducible exact LeO.none _)
      | (with_reducible refine LeO.ite ?_ ?_)
      | (with_reducible refine LeO.bind ?_ (fun _ => ?_))
      | exact ih0 _ _ _ _ _ _ _
      | exact ih1 _ _ _ _ _ _ _ _ _
      | exact ih2 _ _ _ _ _ _ _ _
      | exact bits_All.mono _ _ _
      | exact bits_Of.mono _ _ _
      | exact group_Lay.mono _ _ _
      | exact group_Read.mono _ _ _ _
      | exact purlinlaw0_SameInts.mono _ _ _
      | exact purlinlaw11_awake.mono _
      | exact LeO.none _
      | refine LeO.ite ?_ ?_
      | refine LeO.bind ?_ (fun _ => ?_)
    · intro y0 y1 y2 y3 y4 y5 y6 y7
      unfold purlinlaw11_GroupWidths.j2
      repeat' first
      | (with_reducible exact ih0 _ _ _ _ _ _ _)
      | (with_reducible exact ih1 _ _ _ _ _ _ _ _ _)
      | (with_reducible exact ih2 _ _ _ _ _ _ _ _)
      | (with_reducible exact bits_All.mono _ _ _)
      | (with_reducible exact bits_Of.mono _ _ _)
      | (with_reducible exact group_Lay.mono _ _ _)
      | (with_reducible exact group_Read.mono _ _ _ _)
      | (with_reducible exact purlinlaw0_SameInts.mono _ _ _)
      | (with_reducible exact purlinlaw11_awake.mono _)
      | (with_reducible exact LeO.refl _)
      | (with_reducible exact LeO.none _)
      | (with_reducible refine LeO.ite ?_ ?_)
      | (with_reducible refine LeO.bind ?_ (fun _ => ?_))
      | exact ih0 _ _ _ _ _ _ _
      | exact ih1 _ _ _ _ _ _ _ _ _
      | exact ih2 _ _ _ _ _ _ _ _
      | exact bits_All.mono _ _ _
      | exact bits_Of.mono _ _ _
      | exact group_Lay.mono _ _ _
      | exact group_Read.mono _ _ _ _
      | exact purlinlaw0_SameInts.mono _ _ _
      | exact purlinlaw11_awake.mono _
      | exact LeO.none _
      | refine LeO.ite ?_ ?_
      | refine LeO.bind ?_ (fun _ => ?_)
theorem purlinlaw11_GroupWidths.mono : ∀ a0 a1 a2 a3 k, LeO (purlinlaw11_GroupWidths.f k a0 a1 a2 a3) (purlinlaw11_GroupWidths.f (k + 1) a0 a1 a2 a3) := by
  intro a0 a1 a2 a3 k
  obtain ⟨ih0, ih1, ih2⟩ := purlinlaw11_GroupWidths.mono_l k
  unfold purlinlaw11_GroupWidths.f
  repeat' first
      | (with_reducible exact ih0 _ _ _ _ _ _ _)
      | (with_reducible exact ih1 _ _ _ _ _ _ _ _ _)
      | (with_reducible exact ih2 _ _ _ _ _ _ _ _)
      | (with_reducible exact bits_All.mono _ _ _)
      | (with_reducible exact bits_Of.mono _ _ _)
      | (with_reducible exact group_Lay.mono _ _ _)
      | (with_reducible exact group_Read.mono _ _ _ _)
      | (with_reducible exact purlinlaw0_SameInts.mono _ _ _)
      | (with_reducible exact purlinlaw11_awake.mono _)
      | (with_reducible exact LeO.refl _)
      | (with_reducible exact LeO.none _)
      | (with_reducible refine LeO.ite ?_ ?_)
      | (with_reducible refine LeO.bind ?_ (fun _ => ?_))
      | exact ih0 _ _ _ _ _ _ _
      | exact ih1 _ _ _ _ _ _ _ _ _
      | exact ih2 _ _ _ _ _ _ _ _
      | exact bits_All.mono _ _ _
      | exact bits_Of.mono _ _ _
      | exact group_Lay.mono _ _ _
      | exact group_Read.mono _ _ _ _
      | exact purlinlaw0_SameInts.mono _ _ _
      | exact purlinlaw11_awake.mono _
      | exact LeO.none _
      | refine LeO.ite ?_ ?_
      | refine LeO.bind ?_ (fun _ => ?_)
set_option maxHeartbeats 8000000 in
set_option maxRecDepth 100000 in
theorem purlinlaw11_GroupWidths.calls (k : Nat) (a0 : Int) (a1 : Int) (a2 : Int) (a3 : Int) (r : Bool) (w : World) (h : purlinlaw11_GroupWidths.f k a0 a1 a2 a3 = some r) :
    Calls Try.prog 17 #[.int .i64 a0, .int .i64 a1, .int .i64 a2, .int .i64 a3] w fun e w' => e = .returned (.bool r) ∧ Below w.heap.size w w' := by
  have HB := Aside0.mk (Below.refl w.heap.size w)
  have H : ((purlinlaw0_Low.f a2 29).bind fun t617 => ((purlinlaw0_Low.f a3 81).bind fun t618 => (purlinlaw11_GroupWidths.l0 k a0 a1 (wrap64 (4 + t617)) (wrap64 (16 + t618)) ([] : List Int) ([] : List Int) 0))) = some r := h
  clear h
  replace H := Option.bind_eq_some_iff.mp H
  obtain ⟨t617, A50, H⟩ := H
  replace H : ((purlinlaw0_Low.f a3 81).bind fun t618 => (purlinlaw11_GroupWidths.l0 k a0 a1 (wrap64 (4 + t617)) (wrap64 (16 + t618)) ([] : List Int) ([] : List Int) 0)) = some r := H
  have A5 := Aside0.mk A50
  clear A50
  replace H := Option.bind_eq_some_iff.mp H
  obtain ⟨t618, A60, H⟩ := H
  replace H : (purlinlaw11_GroupWidths.l0 k a0 a1 (wrap64 (4 + t617)) (wrap64 (16 + t618)) ([] : List Int) ([] : List Int) 0) = some r := H
  have A6 := Aside0.mk A60
  clear A60
  have H' := Aside0.mk H
  clear H
  go_enter Try.func17, Try.ntmps17
  go_wp2_with (first | ((with_reducible refine gate_callee (f := 36) rfl ?_); refine goesL_ (some 19) rfl rfl Try.func36 (by kernel_rfl) rfl #[.int .i64 a2, .int .i64 29] rfl (by (try simp only [List.map_toArray, List.map_cons, List.map_nil]); first | done | rfl | (simp only [List.length_drop, List.length_take]; rfl)) ?_; (with_reducible refine (purlinlaw0_Low.calls a2 29 t617 _ A5.out).mono ?_); rintro e w7 ⟨rfl, hb⟩; refine ⟨_, rfl, ?_⟩; have n0_ := Aside0.mk (below_step (by repeat (first | (with_reducible first | exact HB.out | apply below_alloc | apply pw_below_drewN | apply below_drew1) | exact HB.out)) hb); clear HB; have HB := n0_; clear n0_; (try clear hb); (try clear hb2); (try clear hk); (try clear hi)) | ((with_reducible refine gate_callee (f := 36) rfl ?_); refine goesL_ (some 22) rfl rfl Try.func36 (by kernel_rfl) rfl #[.int .i64 a3, .int .i64 81] rfl (by (try simp only [List.map_toArray, List.map_cons, List.map_nil]); first | done | rfl | (simp only [List.length_drop, List.length_take]; rfl)) ?_; (with_reducible refine (purlinlaw0_Low.calls a3 81 t618 _ A6.out).mono ?_); rintro e w8 ⟨rfl, hb⟩; refine ⟨_, rfl, ?_⟩; have n0_ := Aside0.mk (below_step (by repeat (first | (with_reducible first | exact HB.out | apply below_alloc | apply pw_below_drewN | apply below_drew1) | exact HB.out)) hb); clear HB; have HB := n0_; clear n0_; (try clear hb); (try clear hb2); (try clear hk); (try clear hi)))
  go_loopg [9, 10, 11] k (fun kq v9 v10 v11 w' => ∃ (x9_1 : List Int) (x10_1 : List Int) (x11_1 : Int), v11 = .int .i64 x11_1 ∧ Aside0 (purlinlaw11_GroupWidths.l0 kq a0 a1 (wrap64 (4 + t617)) (wrap64 (16 + t618)) x9_1 x10_1 x11_1 = some r) ∧ Aside0 (kq ≤ k) ∧ Aside0 (Kd.R (Kd.int .i64) 3 w' w.heap.size (fun k_ => some k_ ≠ (v10 : Value).ownBlock) v9 x9_1) ∧ Aside0 (Kd.R (Kd.int .i64) 3 w' w.heap.size (fun k_ => some k_ ≠ (v9 : Value).ownBlock) v10 x10_1) ∧ Aside0 (Below w.heap.size w w'))
  case atStart => exact ⟨(([] : List Int)), (([] : List Int)), (0), (by first | rfl | (simp; done) | (simp [*]; done)), H', ⟨Nat.le_refl _⟩, ⟨by first | exact Kd.R_nil _ _ _ _ _ | exact Kd.N_nil _ _ _ _ _ | exact Kd.V_nil _ _ _ _ _ | exact Kd.Q_nil _ _ _ _ _ | exact Kd.S_nil _ _ _ _ _⟩, ⟨by first | exact Kd.R_nil _ _ _ _ _ | exact Kd.N_nil _ _ _ _ _ | exact Kd.V_nil _ _ _ _ _ | exact Kd.Q_nil _ _ _ _ _ | exact Kd.S_nil _ _ _ _ _⟩, ⟨by repeat (first | (with_reducible first | exact HB.out | apply below_alloc | apply pw_below_drewN | apply below_drew1) | exact HB.out)⟩⟩
  case round =>
    clear H'
    try clear c1
    try clear p2
    try clear c3
    try clear p6
    obtain ⟨x9_1, x10_1, x11_1, rfl, HA, HK1, HO_9, HO_10, HB⟩ := hrel
    cases gk with
    | zero => exact absurd HA.out (by simp [purlinlaw11_GroupWidths.l0])
    | succ k1 =>
      have H := HA.out
      clear HA
      simp only [purlinlaw11_GroupWidths.l0] at H
      by_cases c9 : x11_1 < 32
      · rw [if_pos c9] at H
        have c9b0 : decide (x11_1 < 32) = true := decide_eq_true c9
        clear c9
        by_cases c10 : 0 ≤ x11_1
        · rw [if_pos c10] at H
          have c10b0 := eq_true c10
          have c10b1 : decide (0 ≤ x11_1) = true := decide_eq_true c10
          clear c10
          obtain ⟨ji11, hji11⟩ : ∃ j_ : Int, (shr .i64 a0 x11_1) = j_ := ⟨_, rfl⟩
          replace H : (if (Go.bits .and .i64 (ji11) 1) = 1 then (if x9_1.length < 17592186044416 then ((some (x9_1 ++ [x11_1] : List Int)).bind fun y619 => (if (Go.bits .and .i64 (shr .i64 a1 x11_1) 1) = 1 then (if x10_1.length < 17592186044416 then (purlinlaw11_GroupWidths.l0 k1 a0 a1 (wrap64 (4 + t617)) (wrap64 (16 + t618)) y619 (x10_1 ++ [wrap64 (3 * x11_1)]) (wrap64 (x11_1 + 1))) else (none)) else (purlinlaw11_GroupWidths.l0 k1 a0 a1 (wrap64 (4 + t617)) (wrap64 (16 + t618)) y619 x10_1 (wrap64 (x11_1 + 1))))) else (none)) else (if (Go.bits .and .i64 (shr .i64 a1 x11_1) 1) = 1 then (if x10_1.length < 17592186044416 then (purlinlaw11_GroupWidths.l0 k1 a0 a1 (wrap64 (4 + t617)) (wrap64 (16 + t618)) x9_1 (x10_1 ++ [wrap64 (3 * x11_1)]) (wrap64 (x11_1 + 1))) else (none)) else (purlinlaw11_GroupWidths.l0 k1 a0 a1 (wrap64 (4 + t617)) (wrap64 (16 + t618)) x9_1 x10_1 (wrap64 (x11_1 + 1))))) = some r := by first | (rw [hji11] at H; exact H) | (simp only [hji11] at H ⊢; exact H)
          have hji11_ : (a0 / 2 ^ min x11_1.toNat 64) = ji11 := hji11
          have hji11z : x11_1 ≤ 64 → (a0 / 2 ^ x11_1.toNat) = ji11 := shr_small hji11
          by_cases c12 : (Go.bits .and .i64 (ji11) 1) = 1
          · rw [if_pos c12] at H
            have c12b0 : ((Go.bits .and .i64 (ji11) 1) == 1) = true := beq_iff_eq.mpr c12
            have c12b1 : ((Go.bits .and .i64 (ji11) 1) != 1) = false := bne_eq_false_iff_eq.mpr c12
            clear c12
            by_cases c13 : x9_1.length < 17592186044416
            · rw [if_pos c13] at H
              have LMc13 := Aside0.mk c13
              clear c13
              obtain ⟨y619, hy619⟩ : ∃ y_ : List Int, y_ = (x9_1 ++ [x11_1]) := ⟨_, rfl⟩
              replace H : (if (Go.bits .and .i64 (shr .i64 a1 x11_1) 1) = 1 then (if x10_1.length < 17592186044416 then (purlinlaw11_GroupWidths.l0 k1 a0 a1 (wrap64 (4 + t617)) (wrap64 (16 + t618)) y619 (x10_1 ++ [wrap64 (3 * x11_1)]) (wrap64 (x11_1 + 1))) else (none)) else (purlinlaw11_GroupWidths.l0 k1 a0 a1 (wrap64 (4 + t617)) (wrap64 (16 + t618)) y619 x10_1 (wrap64 (x11_1 + 1)))) = some r := by first | (rw [hy619]; with_reducible exact H) | (have H2_ := (Option.bind_some _ _).symm.trans H; rw [hy619]; with_reducible exact H2_) | (have H2_ := (Option.bind_some _ _).symm.trans H; with_reducible exact H2_) | with_reducible exact H | (rw [hy619]; exact H) | exact H
              have Ny619 := Aside0.mk hy619
              clear hy619
              have c14b0 := eq_true (of_decide_eq_true (by first | (with_reducible assumption) | assumption) : 0 ≤ x11_1)
              obtain ⟨ji15, hji15⟩ : ∃ j_ : Int, (shr .i64 a1 x11_1) = j_ := ⟨_, rfl⟩
              replace H : (if (Go.bits .and .i64 (ji15) 1) = 1 then (if x10_1.length < 17592186044416 then (purlinlaw11_GroupWidths.l0 k1 a0 a1 (wrap64 (4 + t617)) (wrap64 (16 + t618)) y619 (x10_1 ++ [wrap64 (3 * x11_1)]) (wrap64 (x11_1 + 1))) else (none)) else (purlinlaw11_GroupWidths.l0 k1 a0 a1 (wrap64 (4 + t617)) (wrap64 (16 + t618)) y619 x10_1 (wrap64 (x11_1 + 1)))) = some r := by first | (rw [hji15] at H; exact H) | (simp only [hji15] at H ⊢; exact H)
              have hji15_ : (a1 / 2 ^ min x11_1.toNat 64) = ji15 := hji15
              have hji15z : x11_1 ≤ 64 → (a1 / 2 ^ x11_1.toNat) = ji15 := shr_small hji15
              by_cases c16 : (Go.bits .and .i64 (ji15) 1) = 1
              · rw [if_pos c16] at H
                have c16b0 : ((Go.bits .and .i64 (ji15) 1) == 1) = true := beq_iff_eq.mpr c16
                have c16b1 : ((Go.bits .and .i64 (ji15) 1) != 1) = false := bne_eq_false_iff_eq.mpr c16
                clear c16
                by_cases c17 : x10_1.length < 17592186044416
                · rw [if_pos c17] at H
                  have LMc17 := Aside0.mk c17
                  clear c17
                  obtain ⟨y622, hy622⟩ : ∃ y_ : List Int, y_ = (x10_1 ++ [wrap64 (3 * x11_1)]) := ⟨_, rfl⟩
                  replace H : (purlinlaw11_GroupWidths.l0 k1 a0 a1 (wrap64 (4 + t617)) (wrap64 (16 + t618)) y619 y622 (wrap64 (x11_1 + 1))) = some r := by first | (rw [hy622]; with_reducible exact H) | (have H2_ := (Option.bind_some _ _).symm.trans H; rw [hy622]; with_reducible exact H2_) | (have H2_ := (Option.bind_some _ _).symm.trans H; with_reducible exact H2_) | with_reducible exact H | (rw [hy622]; exact H) | exact H
                  have Ny622 := Aside0.mk hy622
                  clear hy622
                  have H' := Aside0.mk H
                  clear H
                  go_wp2_with (first | ((with_reducible refine gate_builtin (b := .append) (xs := #[.tmp 33, .tmp 35]) rfl ?_); (try (refine gate_guard (by rfl) ?_; dsimp only)); at_builtin; refine Kd.R_append (Kd.int .i64) (w0 := w) w.heap.size rfl (.tmp 33) (.tmp 35) 42 3 (.int .i64 0) 8 rfl Try.underlying42 info3 rfl (by decide) (by omega) u9 x9_1 x11_1 [.int .i64 x11_1] (fun k_ => some k_ ≠ (u10 : Value).ownBlock) (fun _ => False) rfl rfl ?aP (fun _ hk => hk.elim) ?aF ?aO ?aB ?aS ?aL ?_; (case aP => exact rfl); (case aB => exact (by repeat (first | (with_reducible first | exact HB.out | apply below_alloc | apply pw_below_drewN | apply below_drew1) | exact HB.out))); (case aF => exact (fun k_ hk => Kd.fresh' (Kd.R_lt (by (with_reducible repeat (first | apply Kd.R_alloc | apply Kd.R_drewN | apply Kd.R_drew)); exact HO_10.out)) k_ hk)); (case aO => exact (by (with_reducible repeat (first | apply Kd.R_alloc | apply Kd.R_drewN | apply Kd.R_drew)); exact HO_9.out)); (case aS => exact (below_size (by repeat (first | (with_reducible first | exact HB.out | apply below_alloc | apply pw_below_drewN | apply below_drew1) | exact HB.out)))); (case aL => have := LMc13.out; omega); intro v620 w18 ho hb hg hat; rw [← Ny619.out] at ho; have n0_ := Aside0.mk (Kd.R_after (ok := (fun _ => True)) (by (with_reducible repeat (first | apply Kd.R_alloc | apply Kd.R_drewN | apply Kd.R_drew)); exact Kd.R_mono HO_10.out (fun _ hk => ⟨trivial, hk⟩)) hg hat); have n1_ := Aside0.mk (hb); have n2_ := Aside0.mk (ho); clear HO_10; clear HB; clear HO_9; have HO_10 := n0_; have HB := n1_; have HO621 := n2_; clear n0_ n1_ n2_; clear ho hb hg hat) | ((with_reducible refine gate_builtin (b := .append) (xs := #[.tmp 42, .tmp 45]) rfl ?_); (try (refine gate_guard (by rfl) ?_; dsimp only)); at_builtin; refine Kd.R_append (Kd.int .i64) (w0 := w) w.heap.size rfl (.tmp 42) (.tmp 45) 42 3 (.int .i64 0) 8 rfl Try.underlying42 info3 rfl (by decide) (by omega) u10 x10_1 (wrap64 (3 * x11_1)) [.int .i64 (wrap64 (3 * x11_1))] (fun k_ => some k_ ≠ (v620 : Value).ownBlock) (fun _ => False) rfl rfl ?aP (fun _ hk => hk.elim) ?aF ?aO ?aB ?aS ?aL ?_; (case aP => exact rfl); (case aB => exact (by repeat (first | (with_reducible first | exact HB.out | apply below_alloc | apply pw_below_drewN | apply below_drew1) | exact HB.out))); (case aF => exact (fun k_ hk => Kd.fresh' (Kd.R_lt (by (with_reducible repeat (first | apply Kd.R_alloc | apply Kd.R_drewN | apply Kd.R_drew)); exact HO621.out)) k_ hk)); (case aO => exact (by (with_reducible repeat (first | apply Kd.R_alloc | apply Kd.R_drewN | apply Kd.R_drew)); exact Kd.R_mono HO_10.out (fun _ hk => hk.2))); (case aS => exact (below_size (by repeat (first | (with_reducible first | exact HB.out | apply below_alloc | apply pw_below_drewN | apply below_drew1) | exact HB.out)))); (case aL => have := LMc17.out; omega); intro v623 w19 ho hb hg hat; rw [← Ny622.out] at ho; have n0_ := Aside0.mk (Kd.R_after (ok := (fun _ => True)) (by (with_reducible repeat (first | apply Kd.R_alloc | apply Kd.R_drewN | apply Kd.R_drew)); exact Kd.R_mono HO621.out (fun _ hk => ⟨trivial, hk⟩)) hg hat); have n1_ := Aside0.mk (hb); have n2_ := Aside0.mk (ho); clear HO621; clear HB; clear HO_10; have HO621 := n0_; have HB := n1_; have HO624 := n2_; clear n0_ n1_ n2_; clear ho hb hg hat))
                  go_roundg k1
                  case measure => have := HK1.out; omega
                  case rel => exact ⟨(y619), (y622), (wrap64 (x11_1 + 1)), (by first | rfl | (simp; done) | (simp [*]; done)), H', ⟨by have := HK1.out; omega⟩, ⟨by (with_reducible repeat (first | apply Kd.R_alloc | apply Kd.R_drewN | apply Kd.R_drew)); exact Kd.R_mono HO621.out (fun _ hk => hk.2)⟩, ⟨by (with_reducible repeat (first | apply Kd.R_alloc | apply Kd.R_drewN | apply Kd.R_drew)); exact HO624.out⟩, ⟨by repeat (first | (with_reducible first | exact HB.out | apply below_alloc | apply pw_below_drewN | apply below_drew1) | exact HB.out)⟩⟩
                · rw [if_neg c17] at H
                  exact absurd H (by simp)
              · rw [if_neg c16] at H
                have c16b0 : ((Go.bits .and .i64 (ji15) 1) == 1) = false := beq_eq_false_iff_ne.mpr c16
                have c16b1 : ((Go.bits .and .i64 (ji15) 1) != 1) = true := bne_iff_ne.mpr c16
                have H' := Aside0.mk H
                clear H
                go_wp2_with (first | ((with_reducible refine gate_builtin (b := .append) (xs := #[.tmp 33, .tmp 35]) rfl ?_); (try (refine gate_guard (by rfl) ?_; dsimp only)); at_builtin; refine Kd.R_append (Kd.int .i64) (w0 := w) w.heap.size rfl (.tmp 33) (.tmp 35) 42 3 (.int .i64 0) 8 rfl Try.underlying42 info3 rfl (by decide) (by omega) u9 x9_1 x11_1 [.int .i64 x11_1] (fun k_ => some k_ ≠ (u10 : Value).ownBlock) (fun _ => False) rfl rfl ?aP (fun _ hk => hk.elim) ?aF ?aO ?aB ?aS ?aL ?_; (case aP => exact rfl); (case aB => exact (by repeat (first | (with_reducible first | exact HB.out | apply below_alloc | apply pw_below_drewN | apply below_drew1) | exact HB.out))); (case aF => exact (fun k_ hk => Kd.fresh' (Kd.R_lt (by (with_reducible repeat (first | apply Kd.R_alloc | apply Kd.R_drewN | apply Kd.R_drew)); exact HO_10.out)) k_ hk)); (case aO => exact (by (with_reducible repeat (first | apply Kd.R_alloc | apply Kd.R_drewN | apply Kd.R_drew)); exact HO_9.out)); (case aS => exact (below_size (by repeat (first | (with_reducible first | exact HB.out | apply below_alloc | apply pw_below_drewN | apply below_drew1) | exact HB.out)))); (case aL => have := LMc13.out; omega); intro v620 w20 ho hb hg hat; rw [← Ny619.out] at ho; have n0_ := Aside0.mk (Kd.R_after (ok := (fun _ => True)) (by (with_reducible repeat (first | apply Kd.R_alloc | apply Kd.R_drewN | apply Kd.R_drew)); exact Kd.R_mono HO_10.out (fun _ hk => ⟨trivial, hk⟩)) hg hat); have n1_ := Aside0.mk (hb); have n2_ := Aside0.mk (ho); clear HO_10; clear HB; clear HO_9; have HO_10 := n0_; have HB := n1_; have HO621 := n2_; clear n0_ n1_ n2_; clear ho hb hg hat))
                go_roundg k1
                case measure => have := HK1.out; omega
                case rel => exact ⟨(y619), (x10_1), (wrap64 (x11_1 + 1)), (by first | rfl | (simp; done) | (simp [*]; done)), H', ⟨by have := HK1.out; omega⟩, ⟨by (with_reducible repeat (first | apply Kd.R_alloc | apply Kd.R_drewN | apply Kd.R_drew)); exact HO621.out⟩, ⟨by (with_reducible repeat (first | apply Kd.R_alloc | apply Kd.R_drewN | apply Kd.R_drew)); exact Kd.R_mono HO_10.out (fun _ hk => hk.2)⟩, ⟨by repeat (first | (with_reducible first | exact HB.out | apply below_alloc | apply pw_below_drewN | apply below_drew1) | exact HB.out)⟩⟩
            · rw [if_neg c13] at H
              exact absurd H (by simp)
          · rw [if_neg c12] at H
            have c12b0 : ((Go.bits .and .i64 (ji11) 1) == 1) = false := beq_eq_false_iff_ne.mpr c12
            have c12b1 : ((Go.bits .and .i64 (ji11) 1) != 1) = true := bne_iff_ne.mpr c12
            have c21b0 := eq_true (of_decide_eq_true (by first | (with_reducible assumption) | assumption) : 0 ≤ x11_1)
            obtain ⟨ji22, hji22⟩ : ∃ j_ : Int, (shr .i64 a1 x11_1) = j_ := ⟨_, rfl⟩
            replace H : (if (Go.bits .and .i64 (ji22) 1) = 1 then (if x10_1.length < 17592186044416 then (purlinlaw11_GroupWidths.l0 k1 a0 a1 (wrap64 (4 + t617)) (wrap64 (16 + t618)) x9_1 (x10_1 ++ [wrap64 (3 * x11_1)]) (wrap64 (x11_1 + 1))) else (none)) else (purlinlaw11_GroupWidths.l0 k1 a0 a1 (wrap64 (4 + t617)) (wrap64 (16 + t618)) x9_1 x10_1 (wrap64 (x11_1 + 1)))) = some r := by first | (rw [hji22] at H; exact H) | (simp only [hji22] at H ⊢; exact H)
            have hji22_ : (a1 / 2 ^ min x11_1.toNat 64) = ji22 := hji22
            have hji22z : x11_1 ≤ 64 → (a1 / 2 ^ x11_1.toNat) = ji22 := shr_small hji22
            by_cases c23 : (Go.bits .and .i64 (ji22) 1) = 1
            · rw [if_pos c23] at H
              have c23b0 : ((Go.bits .and .i64 (ji22) 1) == 1) = true := beq_iff_eq.mpr c23
              have c23b1 : ((Go.bits .and .i64 (ji22) 1) != 1) = false := bne_eq_false_iff_eq.mpr c23
              clear c23
              by_cases c24 : x10_1.length < 17592186044416
              · rw [if_pos c24] at H
                have LMc24 := Aside0.mk c24
                clear c24
                obtain ⟨y625, hy625⟩ : ∃ y_ : List Int, y_ = (x10_1 ++ [wrap64 (3 * x11_1)]) := ⟨_, rfl⟩
                replace H : (purlinlaw11_GroupWidths.l0 k1 a0 a1 (wrap64 (4 + t617)) (wrap64 (16 + t618)) x9_1 y625 (wrap64 (x11_1 + 1))) = some r := by first | (rw [hy625]; with_reducible exact H) | (have H2_ := (Option.bind_some _ _).symm.trans H; rw [hy625]; with_reducible exact H2_) | (have H2_ := (Option.bind_some _ _).symm.trans H; with_reducible exact H2_) | with_reducible exact H | (rw [hy625]; exact H) | exact H
                have Ny625 := Aside0.mk hy625
                clear hy625
                have H' := Aside0.mk H
                clear H
                go_wp2_with (first | ((with_reducible refine gate_builtin (b := .append) (xs := #[.tmp 42, .tmp 45]) rfl ?_); (try (refine gate_guard (by rfl) ?_; dsimp only)); at_builtin; refine Kd.R_append (Kd.int .i64) (w0 := w) w.heap.size rfl (.tmp 42) (.tmp 45) 42 3 (.int .i64 0) 8 rfl Try.underlying42 info3 rfl (by decide) (by omega) u10 x10_1 (wrap64 (3 * x11_1)) [.int .i64 (wrap64 (3 * x11_1))] (fun k_ => some k_ ≠ (u9 : Value).ownBlock) (fun _ => False) rfl rfl ?aP (fun _ hk => hk.elim) ?aF ?aO ?aB ?aS ?aL ?_; (case aP => exact rfl); (case aB => exact (by repeat (first | (with_reducible first | exact HB.out | apply below_alloc | apply pw_below_drewN | apply below_drew1) | exact HB.out))); (case aF => exact (fun k_ hk => Kd.fresh' (Kd.R_lt (by (with_reducible repeat (first | apply Kd.R_alloc | apply Kd.R_drewN | apply Kd.R_drew)); exact HO_9.out)) k_ hk)); (case aO => exact (by (with_reducible repeat (first | apply Kd.R_alloc | apply Kd.R_drewN | apply Kd.R_drew)); exact HO_10.out)); (case aS => exact (below_size (by repeat (first | (with_reducible first | exact HB.out | apply below_alloc | apply pw_below_drewN | apply below_drew1) | exact HB.out)))); (case aL => have := LMc24.out; omega); intro v626 w25 ho hb hg hat; rw [← Ny625.out] at ho; have n0_ := Aside0.mk (Kd.R_after (ok := (fun _ => True)) (by (with_reducible repeat (first | apply Kd.R_alloc | apply Kd.R_drewN | apply Kd.R_drew)); exact Kd.R_mono HO_9.out (fun _ hk => ⟨trivial, hk⟩)) hg hat); have n1_ := Aside0.mk (hb); have n2_ := Aside0.mk (ho); clear HO_9; clear HB; clear HO_10; have HO_9 := n0_; have HB := n1_; have HO627 := n2_; clear n0_ n1_ n2_; clear ho hb hg hat))
                go_roundg k1
                case measure => have := HK1.out; omega
                case rel => exact ⟨(x9_1), (y625), (wrap64 (x11_1 + 1)), (by first | rfl | (simp; done) | (simp [*]; done)), H', ⟨by have := HK1.out; omega⟩, ⟨by (with_reducible repeat (first | apply Kd.R_alloc | apply Kd.R_drewN | apply Kd.R_drew)); exact Kd.R_mono HO_9.out (fun _ hk => hk.2)⟩, ⟨by (with_reducible repeat (first | apply Kd.R_alloc | apply Kd.R_drewN | apply Kd.R_drew)); exact HO627.out⟩, ⟨by repeat (first | (with_reducible first | exact HB.out | apply below_alloc | apply pw_below_drewN | apply below_drew1) | exact HB.out)⟩⟩
              · rw [if_neg c24] at H
                exact absurd H (by simp)
            · rw [if_neg c23] at H
              have c23b0 : ((Go.bits .and .i64 (ji22) 1) == 1) = false := beq_eq_false_iff_ne.mpr c23
              have c23b1 : ((Go.bits .and .i64 (ji22) 1) != 1) = true := bne_iff_ne.mpr c23
              have H' := Aside0.mk H
              clear H
              go_wp2
              go_roundg k1
              case measure => have := HK1.out; omega
              case rel => exact ⟨(x9_1), (x10_1), (wrap64 (x11_1 + 1)), (by first | rfl | (simp; done) | (simp [*]; done)), H', ⟨by have := HK1.out; omega⟩, ⟨by (with_reducible repeat (first | apply Kd.R_alloc | apply Kd.R_drewN | apply Kd.R_drew)); exact HO_9.out⟩, ⟨by (with_reducible repeat (first | apply Kd.R_alloc | apply Kd.R_drewN | apply Kd.R_drew)); exact HO_10.out⟩, ⟨by repeat (first | (with_reducible first | exact HB.out | apply below_alloc | apply pw_below_drewN | apply below_drew1) | exact HB.out)⟩⟩
        · rw [if_neg c10] at H
          exact absurd H (by simp)
      · rw [if_neg c9] at H
        have c9b0 : decide (x11_1 < 32) = false := decide_eq_false c9
        clear c9
        replace H := Option.bind_eq_some_iff.mp H
        obtain ⟨t628, A260, H⟩ := H
        replace H : ((bits_Of.f k1 96 x10_1).bind fun t631 => ((group_Lay.f k1 t628 t631).bind fun bt634 => ((group_Read.f k1 bt634.1 (wrap64 (4 + t617)) (wrap64 (16 + t618))).bind fun bt638 => (if (x9_1.length : Int) = 0 then (if (x10_1.length : Int) = 0 then (purlinlaw11_GroupWidths.j1 k1 (wrap64 (4 + t617)) (wrap64 (16 + t618)) x9_1 x10_1 bt634.2 bt638.1 bt638.2.1 bt638.2.2 true) else (if 0 ≤ (wrap64 ((x10_1.length : Int) - 1)) then (if (wrap64 ((x10_1.length : Int) - 1)) < (x10_1.length : Int) then (purlinlaw11_GroupWidths.j1 k1 (wrap64 (4 + t617)) (wrap64 (16 + t618)) x9_1 x10_1 bt634.2 bt638.1 bt638.2.1 bt638.2.2 (decide ((rd x10_1 (wrap64 ((x10_1.length : Int) - 1))) < (wrap64 (16 + t618))))) else (none)) else (none))) else (if 0 ≤ (wrap64 ((x9_1.length : Int) - 1)) then (if (wrap64 ((x9_1.length : Int) - 1)) < (x9_1.length : Int) then (if (rd x9_1 (wrap64 ((x9_1.length : Int) - 1))) < (wrap64 (4 + t617)) then (if (x10_1.length : Int) = 0 then (purlinlaw11_GroupWidths.j1 k1 (wrap64 (4 + t617)) (wrap64 (16 + t618)) x9_1 x10_1 bt634.2 bt638.1 bt638.2.1 bt638.2.2 true) else (if 0 ≤ (wrap64 ((x10_1.length : Int) - 1)) then (if (wrap64 ((x10_1.length : Int) - 1)) < (x10_1.length : Int) then (purlinlaw11_GroupWidths.j1 k1 (wrap64 (4 + t617)) (wrap64 (16 + t618)) x9_1 x10_1 bt634.2 bt638.1 bt638.2.1 bt638.2.2 (decide ((rd x10_1 (wrap64 ((x10_1.length : Int) - 1))) < (wrap64 (16 + t618))))) else (none)) else (none))) else (purlinlaw11_GroupWidths.j1 k1 (wrap64 (4 + t617)) (wrap64 (16 + t618)) x9_1 x10_1 bt634.2 bt638.1 bt638.2.1 bt638.2.2 false)) else (none)) else (none)))))) = some r := H
        have A26 := Aside0.mk A260
        clear A260
        replace H := Option.bind_eq_some_iff.mp H
        obtain ⟨t631, A270, H⟩ := H
        replace H : ((group_Lay.f k1 t628 t631).bind fun bt634 => ((group_Read.f k1 bt634.1 (wrap64 (4 + t617)) (wrap64 (16 + t618))).bind fun bt638 => (if (x9_1.length : Int) = 0 then (if (x10_1.length : Int) = 0 then (purlinlaw11_GroupWidths.j1 k1 (wrap64 (4 + t617)) (wrap64 (16 + t618)) x9_1 x10_1 bt634.2 bt638.1 bt638.2.1 bt638.2.2 true) else (if 0 ≤ (wrap64 ((x10_1.length : Int) - 1)) then (if (wrap64 ((x10_1.length : Int) - 1)) < (x10_1.length : Int) then (purlinlaw11_GroupWidths.j1 k1 (wrap64 (4 + t617)) (wrap64 (16 + t618)) x9_1 x10_1 bt634.2 bt638.1 bt638.2.1 bt638.2.2 (decide ((rd x10_1 (wrap64 ((x10_1.length : Int) - 1))) < (wrap64 (16 + t618))))) else (none)) else (none))) else (if 0 ≤ (wrap64 ((x9_1.length : Int) - 1)) then (if (wrap64 ((x9_1.length : Int) - 1)) < (x9_1.length : Int) then (if (rd x9_1 (wrap64 ((x9_1.length : Int) - 1))) < (wrap64 (4 + t617)) then (if (x10_1.length : Int) = 0 then (purlinlaw11_GroupWidths.j1 k1 (wrap64 (4 + t617)) (wrap64 (16 + t618)) x9_1 x10_1 bt634.2 bt638.1 bt638.2.1 bt638.2.2 true) else (if 0 ≤ (wrap64 ((x10_1.length : Int) - 1)) then (if (wrap64 ((x10_1.length : Int) - 1)) < (x10_1.length : Int) then (purlinlaw11_GroupWidths.j1 k1 (wrap64 (4 + t617)) (wrap64 (16 + t618)) x9_1 x10_1 bt634.2 bt638.1 bt638.2.1 bt638.2.2 (decide ((rd x10_1 (wrap64 ((x10_1.length : Int) - 1))) < (wrap64 (16 + t618))))) else (none)) else (none))) else (purlinlaw11_GroupWidths.j1 k1 (wrap64 (4 + t617)) (wrap64 (16 + t618)) x9_1 x10_1 bt634.2 bt638.1 bt638.2.1 bt638.2.2 false)) else (none)) else (none))))) = some r := H
        have A27 := Aside0.mk A270
        clear A270
        replace H := Option.bind_eq_some_iff.mp H
        obtain ⟨⟨t634, t635⟩, A280, H⟩ := H
        replace H : ((group_Read.f k1 t634 (wrap64 (4 + t617)) (wrap64 (16 + t618))).bind fun bt638 => (if (x9_1.length : Int) = 0 then (if (x10_1.length : Int) = 0 then (purlinlaw11_GroupWidths.j1 k1 (wrap64 (4 + t617)) (wrap64 (16 + t618)) x9_1 x10_1 t635 bt638.1 bt638.2.1 bt638.2.2 true) else (if 0 ≤ (wrap64 ((x10_1.length : Int) - 1)) then (if (wrap64 ((x10_1.length : Int) - 1)) < (x10_1.length : Int) then (purlinlaw11_GroupWidths.j1 k1 (wrap64 (4 + t617)) (wrap64 (16 + t618)) x9_1 x10_1 t635 bt638.1 bt638.2.1 bt638.2.2 (decide ((rd x10_1 (wrap64 ((x10_1.length : Int) - 1))) < (wrap64 (16 + t618))))) else (none)) else (none))) else (if 0 ≤ (wrap64 ((x9_1.length : Int) - 1)) then (if (wrap64 ((x9_1.length : Int) - 1)) < (x9_1.length : Int) then (if (rd x9_1 (wrap64 ((x9_1.length : Int) - 1))) < (wrap64 (4 + t617)) then (if (x10_1.length : Int) = 0 then (purlinlaw11_GroupWidths.j1 k1 (wrap64 (4 + t617)) (wrap64 (16 + t618)) x9_1 x10_1 t635 bt638.1 bt638.2.1 bt638.2.2 true) else (if 0 ≤ (wrap64 ((x10_1.length : Int) - 1)) then (if (wrap64 ((x10_1.length : Int) - 1)) < (x10_1.length : Int) then (purlinlaw11_GroupWidths.j1 k1 (wrap64 (4 + t617)) (wrap64 (16 + t618)) x9_1 x10_1 t635 bt638.1 bt638.2.1 bt638.2.2 (decide ((rd x10_1 (wrap64 ((x10_1.length : Int) - 1))) < (wrap64 (16 + t618))))) else (none)) else (none))) else (purlinlaw11_GroupWidths.j1 k1 (wrap64 (4 + t617)) (wrap64 (16 + t618)) x9_1 x10_1 t635 bt638.1 bt638.2.1 bt638.2.2 false)) else (none)) else (none)))) = some r := H
        have A28 := Aside0.mk A280
        clear A280
        replace H := Option.bind_eq_some_iff.mp H
        obtain ⟨⟨t638, t639, t640⟩, A290, H⟩ := H
        replace H : (if (x9_1.length : Int) = 0 then (if (x10_1.length : Int) = 0 then (purlinlaw11_GroupWidths.j1 k1 (wrap64 (4 + t617)) (wrap64 (16 + t618)) x9_1 x10_1 t635 t638 t639 t640 true) else (if 0 ≤ (wrap64 ((x10_1.length : Int) - 1)) then (if (wrap64 ((x10_1.length : Int) - 1)) < (x10_1.length : Int) then (purlinlaw11_GroupWidths.j1 k1 (wrap64 (4 + t617)) (wrap64 (16 + t618)) x9_1 x10_1 t635 t638 t639 t640 (decide ((rd x10_1 (wrap64 ((x10_1.length : Int) - 1))) < (wrap64 (16 + t618))))) else (none)) else (none))) else (if 0 ≤ (wrap64 ((x9_1.length : Int) - 1)) then (if (wrap64 ((x9_1.length : Int) - 1)) < (x9_1.length : Int) then (if (rd x9_1 (wrap64 ((x9_1.length : Int) - 1))) < (wrap64 (4 + t617)) then (if (x10_1.length : Int) = 0 then (purlinlaw11_GroupWidths.j1 k1 (wrap64 (4 + t617)) (wrap64 (16 + t618)) x9_1 x10_1 t635 t638 t639 t640 true) else (if 0 ≤ (wrap64 ((x10_1.length : Int) - 1)) then (if (wrap64 ((x10_1.length : Int) - 1)) < (x10_1.length : Int) then (purlinlaw11_GroupWidths.j1 k1 (wrap64 (4 + t617)) (wrap64 (16 + t618)) x9_1 x10_1 t635 t638 t639 t640 (decide ((rd x10_1 (wrap64 ((x10_1.length : Int) - 1))) < (wrap64 (16 + t618))))) else (none)) else (none))) else (purlinlaw11_GroupWidths.j1 k1 (wrap64 (4 + t617)) (wrap64 (16 + t618)) x9_1 x10_1 t635 t638 t639 t640 false)) else (none)) else (none))) = some r := H
        have A29 := Aside0.mk A290
        clear A290
        have HC30 := Aside0.mk H
        clear H
        obtain ⟨Ao31, co31, eo31⟩ := Kd.R_slice HO_9.out
        subst eo31
        go_upto_region 12 with (first | ((with_reducible refine gate_callee (f := 41) rfl ?_); refine goesL_ (some 49) rfl rfl Try.func41 (by kernel_rfl) rfl #[.int .i64 32, .slice Ao31 x9_1.length co31] rfl (by (try simp only [List.map_toArray, List.map_cons, List.map_nil]); first | done | rfl | (simp only [List.length_drop, List.length_take]; rfl)) ?_; (with_reducible refine (bits_Of.calls k1 32 _ _ x9_1 t628 _ ?side1 ?side2 A26.out).mono ?_); (case side1 => repeat (first | exact (Kd.R_reads' HO_9.out).2.2 | (with_reducible refine Kd.C_alloc ?_ _) | (with_reducible refine Kd.C_drewN ?_ _) | (with_reducible refine Kd.C_drew ?_))); (case side2 => exact (Kd.R_reads' HO_9.out).2.1); rintro e w32 ⟨v629, rfl, ho0, hb⟩; refine ⟨_, rfl, ?_⟩; have n0_ := Aside0.mk (Kd.R_below (by (with_reducible repeat (first | apply Kd.R_alloc | apply Kd.R_drewN | apply Kd.R_drew)); exact HO_9.out) hb); have n1_ := Aside0.mk (Kd.R_below (by (with_reducible repeat (first | apply Kd.R_alloc | apply Kd.R_drewN | apply Kd.R_drew)); exact HO_10.out) hb); have n2_ := Aside0.mk (Kd.R_lower ho0 (below_size (by repeat (first | (with_reducible first | exact HB.out | apply below_alloc | apply pw_below_drewN | apply below_drew1) | exact HB.out)))); have n3_ := Aside0.mk (below_step (by repeat (first | (with_reducible first | exact HB.out | apply below_alloc | apply pw_below_drewN | apply below_drew1) | exact HB.out)) hb); clear HO_9; clear HO_10; clear HB; have HO_9 := n0_; have HO_10 := n1_; have HO630 := n2_; have HB := n3_; clear n0_ n1_ n2_ n3_; (try clear hb); (try clear hb2); (try clear hk); (try clear hi); (try clear ho0); obtain ⟨Ao33, co33, eo33⟩ := Kd.R_slice HO_10.out; subst eo33) | ((with_reducible refine gate_callee (f := 41) rfl ?_); refine goesL_ (some 51) rfl rfl Try.func41 (by kernel_rfl) rfl #[.int .i64 96, .slice Ao33 x10_1.length co33] rfl (by (try simp only [List.map_toArray, List.map_cons, List.map_nil]); first | done | rfl | (simp only [List.length_drop, List.length_take]; rfl)) ?_; (with_reducible refine (bits_Of.calls k1 96 _ _ x10_1 t631 _ ?side1 ?side2 A27.out).mono ?_); (case side1 => repeat (first | exact (Kd.R_reads' HO_10.out).2.2 | (with_reducible refine Kd.C_alloc ?_ _) | (with_reducible refine Kd.C_drewN ?_ _) | (with_reducible refine Kd.C_drew ?_))); (case side2 => exact (Kd.R_reads' HO_10.out).2.1); rintro e w34 ⟨v632, rfl, ho0, hb⟩; refine ⟨_, rfl, ?_⟩; have n0_ := Aside0.mk (Kd.R_below (by (with_reducible repeat (first | apply Kd.R_alloc | apply Kd.R_drewN | apply Kd.R_drew)); exact HO_9.out) hb); have n1_ := Aside0.mk (Kd.R_below (by (with_reducible repeat (first | apply Kd.R_alloc | apply Kd.R_drewN | apply Kd.R_drew)); exact HO_10.out) hb); have n2_ := Aside0.mk (Kd.R_elder' (by (with_reducible repeat (first | apply Kd.R_alloc | apply Kd.R_drewN | apply Kd.R_drew)); exact HO630.out) (Kd.R_base ho0) hb); have n3_ := Aside0.mk (Kd.R_lower (Kd.R_new' ho0 (Kd.R_lt (by (with_reducible repeat (first | apply Kd.R_alloc | apply Kd.R_drewN | apply Kd.R_drew)); exact HO630.out))) (below_size (by repeat (first | (with_reducible first | exact HB.out | apply below_alloc | apply pw_below_drewN | apply below_drew1) | exact HB.out)))); have n4_ := Aside0.mk (below_step (by repeat (first | (with_reducible first | exact HB.out | apply below_alloc | apply pw_below_drewN | apply below_drew1) | exact HB.out)) hb); clear HO_9; clear HO_10; clear HO630; clear HB; have HO_9 := n0_; have HO_10 := n1_; have HO630 := n2_; have HO633 := n3_; have HB := n4_; clear n0_ n1_ n2_ n3_ n4_; (try clear hb); (try clear hb2); (try clear hk); (try clear hi); (try clear ho0); obtain ⟨Ao35, co35, eo35⟩ := Kd.R_slice HO630.out; subst eo35; obtain ⟨Ao36, co36, eo36⟩ := Kd.R_slice HO633.out; subst eo36) | ((with_reducible refine gate_callee (f := 57) rfl ?_); refine goesL_ (some 52) rfl rfl Try.func57 (by kernel_rfl) rfl #[.slice Ao35 t628.length co35, .slice Ao36 t631.length co36] rfl (by (try simp only [List.map_toArray, List.map_cons, List.map_nil]); first | done | rfl | (simp only [List.length_drop, List.length_take]; rfl)) ?_; (with_reducible refine (group_Lay.calls k1 _ _ t628 _ _ t631 t634 t635 _ ?side1 ?side2 ?side3 ?side4 A28.out).mono ?_); (case side1 => repeat (first | exact (Kd.R_reads' HO630.out).2.2 | (with_reducible refine Kd.C_alloc ?_ _) | (with_reducible refine Kd.C_drewN ?_ _) | (with_reducible refine Kd.C_drew ?_))); (case side2 => exact (Kd.R_reads' HO630.out).2.1); (case side3 => repeat (first | exact (Kd.R_reads' HO633.out).2.2 | (with_reducible refine Kd.C_alloc ?_ _) | (with_reducible refine Kd.C_drewN ?_ _) | (with_reducible refine Kd.C_drew ?_))); (case side4 => exact (Kd.R_reads' HO633.out).2.1); rintro e w37 ⟨v636, rfl, ho0, hb⟩; refine ⟨_, rfl, ?_⟩; have n0_ := Aside0.mk (Kd.R_below (by (with_reducible repeat (first | apply Kd.R_alloc | apply Kd.R_drewN | apply Kd.R_drew)); exact HO_9.out) hb); have n1_ := Aside0.mk (Kd.R_below (by (with_reducible repeat (first | apply Kd.R_alloc | apply Kd.R_drewN | apply Kd.R_drew)); exact HO_10.out) hb); have n2_ := Aside0.mk (Kd.R_elder' (by (with_reducible repeat (first | apply Kd.R_alloc | apply Kd.R_drewN | apply Kd.R_drew)); exact HO630.out) (Kd.R_base ho0) hb); have n3_ := Aside0.mk (Kd.R_elder' (by (with_reducible repeat (first | apply Kd.R_alloc | apply Kd.R_drewN | apply Kd.R_drew)); exact HO633.out) (Kd.R_base ho0) hb); have n4_ := Aside0.mk (Kd.R_lower (Kd.R_new' (Kd.R_new' ho0 (Kd.R_lt (by (with_reducible repeat (first | apply Kd.R_alloc | apply Kd.R_drewN | apply Kd.R_drew)); exact HO630.out))) (Kd.R_lt (by (with_reducible repeat (first | apply Kd.R_alloc | apply Kd.R_drewN | apply Kd.R_drew)); exact HO633.out))) (below_size (by repeat (first | (with_reducible first | exact HB.out | apply below_alloc | apply pw_below_drewN | apply below_drew1) | exact HB.out)))); have n5_ := Aside0.mk (below_step (by repeat (first | (with_reducible first | exact HB.out | apply below_alloc | apply pw_below_drewN | apply below_drew1) | exact HB.out)) hb); clear HO_9; clear HO_10; clear HO630; clear HO633; clear HB; have HO_9 := n0_; have HO_10 := n1_; have HO630 := n2_; have HO633 := n3_; have HO637 := n4_; have HB := n5_; clear n0_ n1_ n2_ n3_ n4_ n5_; (try clear hb); (try clear hb2); (try clear hk); (try clear hi); (try clear ho0); obtain ⟨Ao38, co38, eo38⟩ := Kd.R_slice HO637.out; subst eo38) | ((with_reducible refine gate_callee (f := 59) rfl ?_); refine goesL_ (some 59) rfl rfl Try.func59 (by kernel_rfl) rfl #[.slice Ao38 t634.length co38, .int .i64 (wrap64 (4 + t617)), .int .i64 (wrap64 (16 + t618))] rfl (by (try simp only [List.map_toArray, List.map_cons, List.map_nil]); first | done | rfl | (simp only [List.length_drop, List.length_take]; rfl)) ?_; (with_reducible refine (group_Read.calls k1 _ _ t634 (wrap64 (4 + t617)) (wrap64 (16 + t618)) t638 t639 t640 _ ?side1 ?side2 A29.out).mono ?_); (case side1 => repeat (first | exact (Kd.R_reads' HO637.out).2.2 | (with_reducible refine Kd.C_alloc ?_ _) | (with_reducible refine Kd.C_drewN ?_ _) | (with_reducible refine Kd.C_drew ?_))); (case side2 => exact (Kd.R_reads' HO637.out).2.1); rintro e w39 ⟨v641, v643, rfl, ho0, ho1, hb⟩; refine ⟨_, rfl, ?_⟩; have n0_ := Aside0.mk (Kd.R_below (by (with_reducible repeat (first | apply Kd.R_alloc | apply Kd.R_drewN | apply Kd.R_drew)); exact HO_9.out) hb); have n1_ := Aside0.mk (Kd.R_below (by (with_reducible repeat (first | apply Kd.R_alloc | apply Kd.R_drewN | apply Kd.R_drew)); exact HO_10.out) hb); have n2_ := Aside0.mk (Kd.R_mono (Kd.R_told (Kd.R_told (Kd.R_old (by (with_reducible repeat (first | apply Kd.R_alloc | apply Kd.R_drewN | apply Kd.R_drew)); exact HO630.out) hb) (Kd.R_base ho0)) (Kd.R_base ho1)) (fun _ h_ => h_.1)); have n3_ := Aside0.mk (Kd.R_mono (Kd.R_told (Kd.R_told (Kd.R_old (by (with_reducible repeat (first | apply Kd.R_alloc | apply Kd.R_drewN | apply Kd.R_drew)); exact HO633.out) hb) (Kd.R_base ho0)) (Kd.R_base ho1)) (fun _ h_ => h_.1)); have n4_ := Aside0.mk (Kd.R_mono (Kd.R_told (Kd.R_told (Kd.R_old (by (with_reducible repeat (first | apply Kd.R_alloc | apply Kd.R_drewN | apply Kd.R_drew)); exact HO637.out) hb) (Kd.R_base ho0)) (Kd.R_base ho1)) (fun _ h_ => h_.1)); have n5_ := Aside0.mk (Kd.R_lower (Kd.R_new' (Kd.R_new' (Kd.R_new' ho0 (Kd.R_lt (by (with_reducible repeat (first | apply Kd.R_alloc | apply Kd.R_drewN | apply Kd.R_drew)); exact HO630.out))) (Kd.R_lt (by (with_reducible repeat (first | apply Kd.R_alloc | apply Kd.R_drewN | apply Kd.R_drew)); exact HO633.out))) (Kd.R_lt (by (with_reducible repeat (first | apply Kd.R_alloc | apply Kd.R_drewN | apply Kd.R_drew)); exact HO637.out))) (below_size (by repeat (first | (with_reducible first | exact HB.out | apply below_alloc | apply pw_below_drewN | apply below_drew1) | exact HB.out)))); have n6_ := Aside0.mk (Kd.R_lower (Kd.R_new' (Kd.R_new' (Kd.R_new' ho1 (Kd.R_lt (by (with_reducible repeat (first | apply Kd.R_alloc | apply Kd.R_drewN | apply Kd.R_drew)); exact HO630.out))) (Kd.R_lt (by (with_reducible repeat (first | apply Kd.R_alloc | apply Kd.R_drewN | apply Kd.R_drew)); exact HO633.out))) (Kd.R_lt (by (with_reducible repeat (first | apply Kd.R_alloc | apply Kd.R_drewN | apply Kd.R_drew)); exact HO637.out))) (below_size (by repeat (first | (with_reducible first | exact HB.out | apply below_alloc | apply pw_below_drewN | apply below_drew1) | exact HB.out)))); have n7_ := Aside0.mk (below_step (by repeat (first | (with_reducible first | exact HB.out | apply below_alloc | apply pw_below_drewN | apply below_drew1) | exact HB.out)) hb); clear HO_9; clear HO_10; clear HO630; clear HO633; clear HO637; clear HB; have HO_9 := n0_; have HO_10 := n1_; have HO630 := n2_; have HO633 := n3_; have HO637 := n4_; have HO642 := n5_; have HO644 := n6_; have HB := n7_; clear n0_ n1_ n2_ n3_ n4_ n5_ n6_ n7_; (try clear hb); (try clear hb2); (try clear hk); (try clear hi); (try clear ho0); (try clear ho1)))
        (try simp only [Act.put, List.setIfInBounds_toArray, List.set_cons_zero, List.set_cons_succ])
        go_cut [17] (fun v17 wc => ∃ (kq : Nat) (x17_29 : Bool), v17 = .bool x17_29 ∧ Aside0 (purlinlaw11_GroupWidths.j1 kq (wrap64 (4 + t617)) (wrap64 (16 + t618)) x9_1 x10_1 t635 t638 t639 t640 x17_29 = some r) ∧ Aside0 (kq ≤ k1) ∧ Aside0 (Kd.R (Kd.int .i64) 3 wc w.heap.size (fun k_ => some k_ ≠ ((.slice Ao33 x10_1.length co33) : Value).ownBlock) (.slice Ao31 x9_1.length co31) x9_1) ∧ Aside0 (Kd.R (Kd.int .i64) 3 wc w.heap.size (fun k_ => some k_ ≠ ((.slice Ao31 x9_1.length co31) : Value).ownBlock) (.slice Ao33 x10_1.length co33) x10_1) ∧ Aside0 (Kd.R (Kd.int .u8) 5 wc w.heap.size (fun k_ => some k_ ≠ (v643 : Value).ownBlock) v641 t638) ∧ Aside0 (Kd.R (Kd.int .u8) 5 wc w.heap.size (fun k_ => some k_ ≠ (v641 : Value).ownBlock) v643 t639) ∧ Aside0 (Below w.heap.size w wc))
        case first =>
          have H := HC30.out
          clear HC30
          by_cases c40 : (x9_1.length : Int) = 0
          · rw [if_pos c40] at H
            have c40b0 : ((x9_1.length : Int) == 0) = true := beq_iff_eq.mpr c40
            have c40b1 : ((x9_1.length : Int) != 0) = false := bne_eq_false_iff_eq.mpr c40
            clear c40
            (first | rw [c40b0] | (simp only [i64_w, i32_w]; rw [c40b0]) | skip)
            by_cases c41 : (x10_1.length : Int) = 0
            · rw [if_pos c41] at H
              have c41b0 : ((x10_1.length : Int) == 0) = true := beq_iff_eq.mpr c41
              have c41b1 : ((x10_1.length : Int) != 0) = false := bne_eq_false_iff_eq.mpr c41
              clear c41
              have H' := Aside0.mk H
              clear H
              go_wp2
              go_meet
              case rel => exact ⟨_, (true), (by first | rfl | (simp; done) | (simp [*]; done)), H', ⟨by have := HK1.out; first | omega | exact Nat.le_refl _⟩, ⟨by (with_reducible repeat (first | apply Kd.R_alloc | apply Kd.R_drewN | apply Kd.R_drew)); exact HO_9.out⟩, ⟨by (with_reducible repeat (first | apply Kd.R_alloc | apply Kd.R_drewN | apply Kd.R_drew)); exact HO_10.out⟩, ⟨by (with_reducible repeat (first | apply Kd.R_alloc | apply Kd.R_drewN | apply Kd.R_drew)); exact Kd.R_mono HO642.out (fun _ hk => hk.1.1.1)⟩, ⟨by (with_reducible repeat (first | apply Kd.R_alloc | apply Kd.R_drewN | apply Kd.R_drew)); exact Kd.R_mono HO644.out (fun _ hk => hk.1.1.1)⟩, ⟨by repeat (first | (with_reducible first | exact HB.out | apply below_alloc | apply pw_below_drewN | apply below_drew1) | exact HB.out)⟩⟩
            · rw [if_neg c41] at H
              have c41b0 : ((x10_1.length : Int) == 0) = false := beq_eq_false_iff_ne.mpr c41
              have c41b1 : ((x10_1.length : Int) != 0) = true := bne_iff_ne.mpr c41
              have c41b2 : ¬ (x10_1 = []) := fun h_ => c41 (by rw [h_]; rfl)
              obtain ⟨ji42, hji42⟩ : ∃ j_ : Int, (wrap64 ((x10_1.length : Int) - 1)) = j_ := ⟨_, rfl⟩
              replace H : (if 0 ≤ (ji42) then (if (ji42) < (x10_1.length : Int) then (purlinlaw11_GroupWidths.j1 k1 (wrap64 (4 + t617)) (wrap64 (16 + t618)) x9_1 x10_1 t635 t638 t639 t640 (decide ((rd x10_1 (ji42)) < (wrap64 (16 + t618))))) else (none)) else (none)) = some r := by first | (rw [hji42] at H; exact H) | (simp only [hji42] at H ⊢; exact H)
              have hji42w : (IntKind.i64.wrap ((x10_1.length : Int) - 1)) = ji42 := (i64_w _).trans hji42
              by_cases c43 : 0 ≤ (ji42)
              · rw [if_pos c43] at H
                have c43b0 : decide (0 ≤ (ji42)) = true := decide_eq_true c43
                clear c43
                by_cases c44 : (ji42) < (x10_1.length : Int)
                · rw [if_pos c44] at H
                  have c44b0 : decide ((ji42) < (x10_1.length : Int)) = true := decide_eq_true c44
                  clear c44
                  have H' := Aside0.mk H
                  clear H
                  have p645 : 0 ≤ ((ji42) : Int) := of_decide_eq_true (by first | (with_reducible assumption) | assumption)
                  have q645 : (ji42) < (x10_1.length : Int) := of_decide_eq_true (by first | (with_reducible assumption) | assumption)
                  obtain ⟨ad645, e645, hx645_0⟩ := Kd.at_int (Kd.R_reads' HO_10.out).2.2 (ji42) p645 q645
                  cases e645
                  replace p645 := eq_true p645
                  replace q645 := eq_true q645
                  go_wp2
                  go_meet
                  case rel => exact ⟨_, (decide ((rd x10_1 (ji42)) < (wrap64 (16 + t618)))), (by first | rfl | (simp; done) | (simp only [← hji42] <;> (first | rfl | simp)) | (simp [*]; done)), H', ⟨by have := HK1.out; first | omega | exact Nat.le_refl _⟩, ⟨by (with_reducible repeat (first | apply Kd.R_alloc | apply Kd.R_drewN | apply Kd.R_drew)); exact HO_9.out⟩, ⟨by (with_reducible repeat (first | apply Kd.R_alloc | apply Kd.R_drewN | apply Kd.R_drew)); exact HO_10.out⟩, ⟨by (with_reducible repeat (first | apply Kd.R_alloc | apply Kd.R_drewN | apply Kd.R_drew)); exact Kd.R_mono HO642.out (fun _ hk => hk.1.1.1)⟩, ⟨by (with_reducible repeat (first | apply Kd.R_alloc | apply Kd.R_drewN | apply Kd.R_drew)); exact Kd.R_mono HO644.out (fun _ hk => hk.1.1.1)⟩, ⟨by repeat (first | (with_reducible first | exact HB.out | apply below_alloc | apply pw_below_drewN | apply below_drew1) | exact HB.out)⟩⟩
                · rw [if_neg c44] at H
                  exact absurd H (by simp)
              · rw [if_neg c43] at H
                exact absurd H (by simp)
          · rw [if_neg c40] at H
            have c40b0 : ((x9_1.length : Int) == 0) = false := beq_eq_false_iff_ne.mpr c40
            have c40b1 : ((x9_1.length : Int) != 0) = true := bne_iff_ne.mpr c40
            have c40b2 : ¬ (x9_1 = []) := fun h_ => c40 (by rw [h_]; rfl)
            (first | rw [c40b0] | (simp only [i64_w, i32_w]; rw [c40b0]) | skip)
            obtain ⟨ji45, hji45⟩ : ∃ j_ : Int, (wrap64 ((x9_1.length : Int) - 1)) = j_ := ⟨_, rfl⟩
            replace H : (if 0 ≤ (ji45) then (if (ji45) < (x9_1.length : Int) then (if (rd x9_1 (ji45)) < (wrap64 (4 + t617)) then (if (x10_1.length : Int) = 0 then (purlinlaw11_GroupWidths.j1 k1 (wrap64 (4 + t617)) (wrap64 (16 + t618)) x9_1 x10_1 t635 t638 t639 t640 true) else (if 0 ≤ (wrap64 ((x10_1.length : Int) - 1)) then (if (wrap64 ((x10_1.length : Int) - 1)) < (x10_1.length : Int) then (purlinlaw11_GroupWidths.j1 k1 (wrap64 (4 + t617)) (wrap64 (16 + t618)) x9_1 x10_1 t635 t638 t639 t640 (decide ((rd x10_1 (wrap64 ((x10_1.length : Int) - 1))) < (wrap64 (16 + t618))))) else (none)) else (none))) else (purlinlaw11_GroupWidths.j1 k1 (wrap64 (4 + t617)) (wrap64 (16 + t618)) x9_1 x10_1 t635 t638 t639 t640 false)) else (none)) else (none)) = some r := by first | (rw [hji45] at H; exact H) | (simp only [hji45] at H ⊢; exact H)
            have hji45w : (IntKind.i64.wrap ((x9_1.length : Int) - 1)) = ji45 := (i64_w _).trans hji45
            by_cases c46 : 0 ≤ (ji45)
            · rw [if_pos c46] at H
              have c46b0 : decide (0 ≤ (ji45)) = true := decide_eq_true c46
              clear c46
              by_cases c47 : (ji45) < (x9_1.length : Int)
              · rw [if_pos c47] at H
                have c47b0 : decide ((ji45) < (x9_1.length : Int)) = true := decide_eq_true c47
                clear c47
                by_cases c48 : (rd x9_1 (ji45)) < (wrap64 (4 + t617))
                · rw [if_pos c48] at H
                  have c48b0 : decide ((rd x9_1 (ji45)) < (wrap64 (4 + t617))) = true := decide_eq_true c48
                  clear c48
                  by_cases c49 : (x10_1.length : Int) = 0
                  · rw [if_pos c49] at H
                    have c49b0 : ((x10_1.length : Int) == 0) = true := beq_iff_eq.mpr c49
                    have c49b1 : ((x10_1.length : Int) != 0) = false := bne_eq_false_iff_eq.mpr c49
                    clear c49
                    have H' := Aside0.mk H
                    clear H
                    have p646 : 0 ≤ ((ji45) : Int) := of_decide_eq_true (by first | (with_reducible assumption) | assumption)
                    have q646 : (ji45) < (x9_1.length : Int) := of_decide_eq_true (by first | (with_reducible assumption) | assumption)
                    obtain ⟨ad646, e646, hx646_0⟩ := Kd.at_int (Kd.R_reads' HO_9.out).2.2 (ji45) p646 q646
                    cases e646
                    replace p646 := eq_true p646
                    replace q646 := eq_true q646
                    go_wp2
                    go_meet
                    case rel => exact ⟨_, (true), (by first | rfl | (simp; done) | (simp [*]; done)), H', ⟨by have := HK1.out; first | omega | exact Nat.le_refl _⟩, ⟨by (with_reducible repeat (first | apply Kd.R_alloc | apply Kd.R_drewN | apply Kd.R_drew)); exact HO_9.out⟩, ⟨by (with_reducible repeat (first | apply Kd.R_alloc | apply Kd.R_drewN | apply Kd.R_drew)); exact HO_10.out⟩, ⟨by (with_reducible repeat (first | apply Kd.R_alloc | apply Kd.R_drewN | apply Kd.R_drew)); exact Kd.R_mono HO642.out (fun _ hk => hk.1.1.1)⟩, ⟨by (with_reducible repeat (first | apply Kd.R_alloc | apply Kd.R_drewN | apply Kd.R_drew)); exact Kd.R_mono HO644.out (fun _ hk => hk.1.1.1)⟩, ⟨by repeat (first | (with_reducible first | exact HB.out | apply below_alloc | apply pw_below_drewN | apply below_drew1) | exact HB.out)⟩⟩
                  · rw [if_neg c49] at H
                    have c49b0 : ((x10_1.length : Int) == 0) = false := beq_eq_false_iff_ne.mpr c49
                    have c49b1 : ((x10_1.length : Int) != 0) = true := bne_iff_ne.mpr c49
                    have c49b2 : ¬ (x10_1 = []) := fun h_ => c49 (by rw [h_]; rfl)
                    obtain ⟨ji50, hji50⟩ : ∃ j_ : Int, (wrap64 ((x10_1.length : Int) - 1)) = j_ := ⟨_, rfl⟩
                    replace H : (if 0 ≤ (ji50) then (if (ji50) < (x10_1.length : Int) then (purlinlaw11_GroupWidths.j1 k1 (wrap64 (4 + t617)) (wrap64 (16 + t618)) x9_1 x10_1 t635 t638 t639 t640 (decide ((rd x10_1 (ji50)) < (wrap64 (16 + t618))))) else (none)) else (none)) = some r := by first | (rw [hji50] at H; exact H) | (simp only [hji50] at H ⊢; exact H)
                    have hji50w : (IntKind.i64.wrap ((x10_1.length : Int) - 1)) = ji50 := (i64_w _).trans hji50
                    by_cases c51 : 0 ≤ (ji50)
                    · rw [if_pos c51] at H
                      have c51b0 : decide (0 ≤ (ji50)) = true := decide_eq_true c51
                      clear c51
                      by_cases c52 : (ji50) < (x10_1.length : Int)
                      · rw [if_pos c52] at H
                        have c52b0 : decide ((ji50) < (x10_1.length : Int)) = true := decide_eq_true c52
                        clear c52
                        have H' := Aside0.mk H
                        clear H
                        have p646 : 0 ≤ ((ji45) : Int) := of_decide_eq_true (by first | (with_reducible assumption) | assumption)
                        have q646 : (ji45) < (x9_1.length : Int) := of_decide_eq_true (by first | (with_reducible assumption) | assumption)
                        obtain ⟨ad646, e646, hx646_0⟩ := Kd.at_int (Kd.R_reads' HO_9.out).2.2 (ji45) p646 q646
                        cases e646
                        replace p646 := eq_true p646
                        replace q646 := eq_true q646
                        have p647 : 0 ≤ ((ji50) : Int) := of_decide_eq_true (by first | (with_reducible assumption) | assumption)
                        have q647 : (ji50) < (x10_1.length : Int) := of_decide_eq_true (by first | (with_reducible assumption) | assumption)
                        obtain ⟨ad647, e647, hx647_0⟩ := Kd.at_int (Kd.R_reads' HO_10.out).2.2 (ji50) p647 q647
                        cases e647
                        replace p647 := eq_true p647
                        replace q647 := eq_true q647
                        go_wp2
                        go_meet
                        case rel => exact ⟨_, (decide ((rd x10_1 (ji50)) < (wrap64 (16 + t618)))), (by first | rfl | (simp; done) | (simp only [← hji50] <;> (first | rfl | simp)) | (simp [*]; done)), H', ⟨by have := HK1.out; first | omega | exact Nat.le_refl _⟩, ⟨by (with_reducible repeat (first | apply Kd.R_alloc | apply Kd.R_drewN | apply Kd.R_drew)); exact HO_9.out⟩, ⟨by (with_reducible repeat (first | apply Kd.R_alloc | apply Kd.R_drewN | apply Kd.R_drew)); exact HO_10.out⟩, ⟨by (with_reducible repeat (first | apply Kd.R_alloc | apply Kd.R_drewN | apply Kd.R_drew)); exact Kd.R_mono HO642.out (fun _ hk => hk.1.1.1)⟩, ⟨by (with_reducible repeat (first | apply Kd.R_alloc | apply Kd.R_drewN | apply Kd.R_drew)); exact Kd.R_mono HO644.out (fun _ hk => hk.1.1.1)⟩, ⟨by repeat (first | (with_reducible first | exact HB.out | apply below_alloc | apply pw_below_drewN | apply below_drew1) | exact HB.out)⟩⟩
                      · rw [if_neg c52] at H
                        exact absurd H (by simp)
                    · rw [if_neg c51] at H
                      exact absurd H (by simp)
                · rw [if_neg c48] at H
                  have c48b0 : decide ((rd x9_1 (ji45)) < (wrap64 (4 + t617))) = false := decide_eq_false c48
                  clear c48
                  have H' := Aside0.mk H
                  clear H
                  have p646 : 0 ≤ ((ji45) : Int) := of_decide_eq_true (by first | (with_reducible assumption) | assumption)
                  have q646 : (ji45) < (x9_1.length : Int) := of_decide_eq_true (by first | (with_reducible assumption) | assumption)
                  obtain ⟨ad646, e646, hx646_0⟩ := Kd.at_int (Kd.R_reads' HO_9.out).2.2 (ji45) p646 q646
                  cases e646
                  replace p646 := eq_true p646
                  replace q646 := eq_true q646
                  go_wp2
                  go_meet
                  case rel => exact ⟨_, (false), (by first | rfl | (simp; done) | (simp [*]; done)), H', ⟨by have := HK1.out; first | omega | exact Nat.le_refl _⟩, ⟨by (with_reducible repeat (first | apply Kd.R_alloc | apply Kd.R_drewN | apply Kd.R_drew)); exact HO_9.out⟩, ⟨by (with_reducible repeat (first | apply Kd.R_alloc | apply Kd.R_drewN | apply Kd.R_drew)); exact HO_10.out⟩, ⟨by (with_reducible repeat (first | apply Kd.R_alloc | apply Kd.R_drewN | apply Kd.R_drew)); exact Kd.R_mono HO642.out (fun _ hk => hk.1.1.1)⟩, ⟨by (with_reducible repeat (first | apply Kd.R_alloc | apply Kd.R_drewN | apply Kd.R_drew)); exact Kd.R_mono HO644.out (fun _ hk => hk.1.1.1)⟩, ⟨by repeat (first | (with_reducible first | exact HB.out | apply below_alloc | apply pw_below_drewN | apply below_drew1) | exact HB.out)⟩⟩
              · rw [if_neg c47] at H
                exact absurd H (by simp)
            · rw [if_neg c46] at H
              exact absurd H (by simp)
        case rest =>
          clear HC30
          try clear c1
          try clear c2
          try clear p2
          try clear c3
          try clear c4
          try clear c5
          try clear p6
          try clear q6
          try clear hx6
          try clear c9
          try clear c9b0
          try clear c10
          try clear c10b0
          try clear c10b1
          try clear c12
          try clear c12b0
          try clear c12b1
          try clear c13
          try clear c14
          try clear c14b0
          try clear c16
          try clear c16b0
          try clear c16b1
          try clear c17
          try clear c21
          try clear c21b0
          try clear c23
          try clear c23b0
          try clear c23b1
          try clear c24
          try clear c36
          try clear c40
          try clear c40b0
          try clear c40b1
          try clear c40b2
          try clear c41
          try clear c41b0
          try clear c41b1
          try clear c41b2
          try clear c43
          try clear c43b0
          try clear c44
          try clear c44b0
          try clear c46
          try clear c46b0
          try clear c47
          try clear c47b0
          try clear c48
          try clear c48b0
          try clear c49
          try clear c49b0
          try clear c49b1
          try clear c49b2
          try clear c51
          try clear c51b0
          try clear c52
          try clear c52b0
          try clear hx645_0
          try clear hx646_0
          try clear hx647_0
          try clear p2
          try clear p6
          try clear p645
          try clear p646
          try clear p647
          try clear q645
          try clear q646
          try clear q647
          obtain ⟨kq, x17_29, rfl, HA, HJ29, HO_9, HO_10, HO_14, HO_15, HB⟩ := hcut
          cases kq with
          | zero => exact absurd HA.out (by simp [purlinlaw11_GroupWidths.j1])
          | succ kj29 =>
            have H := HA.out
            clear HA
            simp only [purlinlaw11_GroupWidths.j1] at H
            have HC53 := Aside0.mk H
            clear H
            go_upto_region 13 with (fail)
            go_cut [98] (fun v98 wc => ∃ (kq : Nat) (x98_52 : Bool), v98 = .bool x98_52 ∧ Aside0 (purlinlaw11_GroupWidths.j2 kq (wrap64 (4 + t617)) (wrap64 (16 + t618)) x9_1 x10_1 t638 t639 x17_29 x98_52 = some r) ∧ Aside0 (kq ≤ kj29) ∧ Aside0 (Kd.R (Kd.int .i64) 3 wc w.heap.size (fun k_ => some k_ ≠ ((.slice Ao33 x10_1.length co33) : Value).ownBlock) (.slice Ao31 x9_1.length co31) x9_1) ∧ Aside0 (Kd.R (Kd.int .i64) 3 wc w.heap.size (fun k_ => some k_ ≠ ((.slice Ao31 x9_1.length co31) : Value).ownBlock) (.slice Ao33 x10_1.length co33) x10_1) ∧ Aside0 (Kd.R (Kd.int .u8) 5 wc w.heap.size (fun k_ => some k_ ≠ (v643 : Value).ownBlock) v641 t638) ∧ Aside0 (Kd.R (Kd.int .u8) 5 wc w.heap.size (fun k_ => some k_ ≠ (v641 : Value).ownBlock) v643 t639) ∧ Aside0 (Below w.heap.size w wc))
            case first =>
              have H := HC53.out
              clear HC53
              by_cases c54 : t635 = 0
              · rw [if_pos c54] at H
                have c54b0 : (t635 == 0) = true := beq_iff_eq.mpr c54
                have c54b1 : (t635 != 0) = false := bne_eq_false_iff_eq.mpr c54
                clear c54
                (first | rw [c54b0] | (simp only [i64_w, i32_w]; rw [c54b0]) | skip)
                have H' := Aside0.mk H
                clear H
                go_wp2
                go_meet
                case rel => exact ⟨_, (((t640 == 0) != x17_29)), (by first | rfl | (simp; done) | (simp [*]; done)), H', ⟨by have := HK1.out; have := HJ29.out; first | omega | exact Nat.le_refl _⟩, ⟨by (with_reducible repeat (first | apply Kd.R_alloc | apply Kd.R_drewN | apply Kd.R_drew)); exact HO_9.out⟩, ⟨by (with_reducible repeat (first | apply Kd.R_alloc | apply Kd.R_drewN | apply Kd.R_drew)); exact HO_10.out⟩, ⟨by (with_reducible repeat (first | apply Kd.R_alloc | apply Kd.R_drewN | apply Kd.R_drew)); exact HO_14.out⟩, ⟨by (with_reducible repeat (first | apply Kd.R_alloc | apply Kd.R_drewN | apply Kd.R_drew)); exact HO_15.out⟩, ⟨by repeat (first | (with_reducible first | exact HB.out | apply below_alloc | apply pw_below_drewN | apply below_drew1) | exact HB.out)⟩⟩
              · rw [if_neg c54] at H
                have c54b0 : (t635 == 0) = false := beq_eq_false_iff_ne.mpr c54
                have c54b1 : (t635 != 0) = true := bne_iff_ne.mpr c54
                (first | rw [c54b0] | (simp only [i64_w, i32_w]; rw [c54b0]) | skip)
                have H' := Aside0.mk H
                clear H
                go_wp2
                go_meet
                case rel => exact ⟨_, (true), (by first | rfl | (simp; done) | (simp [*]; done)), H', ⟨by have := HK1.out; have := HJ29.out; first | omega | exact Nat.le_refl _⟩, ⟨by (with_reducible repeat (first | apply Kd.R_alloc | apply Kd.R_drewN | apply Kd.R_drew)); exact HO_9.out⟩, ⟨by (with_reducible repeat (first | apply Kd.R_alloc | apply Kd.R_drewN | apply Kd.R_drew)); exact HO_10.out⟩, ⟨by (with_reducible repeat (first | apply Kd.R_alloc | apply Kd.R_drewN | apply Kd.R_drew)); exact HO_14.out⟩, ⟨by (with_reducible repeat (first | apply Kd.R_alloc | apply Kd.R_drewN | apply Kd.R_drew)); exact HO_15.out⟩, ⟨by repeat (first | (with_reducible first | exact HB.out | apply below_alloc | apply pw_below_drewN | apply below_drew1) | exact HB.out)⟩⟩
            case rest =>
              clear HC53
              try clear c1
              try clear c2
              try clear p2
              try clear c3
              try clear c4
              try clear c5
              try clear p6
              try clear q6
              try clear hx6
              try clear c9
              try clear c9b0
              try clear c10
              try clear c10b0
              try clear c10b1
              try clear c12
              try clear c12b0
              try clear c12b1
              try clear c13
              try clear c14
              try clear c14b0
              try clear c16
              try clear c16b0
              try clear c16b1
              try clear c17
              try clear c21
              try clear c21b0
              try clear c23
              try clear c23b0
              try clear c23b1
              try clear c24
              try clear c36
              try clear c40
              try clear c40b0
              try clear c40b1
              try clear c40b2
              try clear c41
              try clear c41b0
              try clear c41b1
              try clear c41b2
              try clear c43
              try clear c43b0
              try clear c44
              try clear c44b0
              try clear c46
              try clear c46b0
              try clear c47
              try clear c47b0
              try clear c48
              try clear c48b0
              try clear c49
              try clear c49b0
              try clear c49b1
              try clear c49b2
              try clear c51
              try clear c51b0
              try clear c52
              try clear c52b0
              try clear c54
              try clear c54b0
              try clear c54b1
              try clear hx645_0
              try clear hx646_0
              try clear hx647_0
              try clear p2
              try clear p6
              try clear p645
              try clear p646
              try clear p647
              try clear q6
              try clear q645
              try clear q646
              try clear q647
              obtain ⟨kq, x98_52, rfl, HA, HJ52, HO_9, HO_10, HO_14, HO_15, HB⟩ := hcut
              cases kq with
              | zero => exact absurd HA.out (by simp [purlinlaw11_GroupWidths.j2])
              | succ kj52 =>
                have H := HA.out
                clear HA
                simp only [purlinlaw11_GroupWidths.j2] at H
                by_cases c55 : x98_52 = true
                · subst c55
                  have H1 : (some false) = some r := by rw [if_pos rfl] at H; exact H
                  clear H
                  have H := H1
                  clear H1
                  obtain rfl := Option.some.inj H
                  go_wp2
                  go_ret
                  exact ⟨by first | rfl | (simp [errW_none, errW_some] <;> rfl) | (simp [*, errW_none, errW_some] <;> rfl), by repeat (first | (with_reducible first | exact HB.out | apply below_alloc | apply pw_below_drewN | apply below_drew1) | exact HB.out)⟩
                · replace c55 := Bool.eq_false_iff.mpr c55
                  subst c55
                  have H1 : (if x17_29 = true then ((bits_All.f kj52 t638 (wrap64 (4 + t617))).bind fun t648 => ((purlinlaw0_SameInts.f kj52 t648 x9_1).bind fun t651 => (if t651 = true then ((bits_All.f kj52 t639 (wrap64 (16 + t618))).bind fun t652 => ((purlinlaw0_SameInts.f kj52 t652 x10_1).bind fun t655 => (if t655 = true then (if (t638.length : Int) = (wrap64 (Int.tdiv (wrap64 ((wrap64 (4 + t617)) + 7)) 8)) then (if (t639.length : Int) = (wrap64 (Int.tdiv (wrap64 ((wrap64 (16 + t618)) + 7)) 8)) then ((purlinlaw11_awake.f kj52).bind fun t656 => (some t656)) else (some false)) else (some false)) else (some false)))) else (some false)))) else ((purlinlaw11_awake.f kj52).bind fun t657 => (some t657))) = some r := by rw [if_neg (show ¬ (false = true) by decide)] at H; exact H
                  clear H
                  have H := H1
                  clear H1
                  by_cases c56 : x17_29 = true
                  · subst c56
                    have H1 : ((bits_All.f kj52 t638 (wrap64 (4 + t617))).bind fun t648 => ((purlinlaw0_SameInts.f kj52 t648 x9_1).bind fun t651 => (if t651 = true then ((bits_All.f kj52 t639 (wrap64 (16 + t618))).bind fun t652 => ((purlinlaw0_SameInts.f kj52 t652 x10_1).bind fun t655 => (if t655 = true then (if (t638.length : Int) = (wrap64 (Int.tdiv (wrap64 ((wrap64 (4 + t617)) + 7)) 8)) then (if (t639.length : Int) = (wrap64 (Int.tdiv (wrap64 ((wrap64 (16 + t618)) + 7)) 8)) then ((purlinlaw11_awake.f kj52).bind fun t656 => (some t656)) else (some false)) else (some false)) else (some false)))) else (some false)))) = some r := by rw [if_pos rfl] at H; exact H
                    clear H
                    have H := H1
                    clear H1
                    replace H := Option.bind_eq_some_iff.mp H
                    obtain ⟨t648, A570, H⟩ := H
                    replace H : ((purlinlaw0_SameInts.f kj52 t648 x9_1).bind fun t651 => (if t651 = true then ((bits_All.f kj52 t639 (wrap64 (16 + t618))).bind fun t652 => ((purlinlaw0_SameInts.f kj52 t652 x10_1).bind fun t655 => (if t655 = true then (if (t638.length : Int) = (wrap64 (Int.tdiv (wrap64 ((wrap64 (4 + t617)) + 7)) 8)) then (if (t639.length : Int) = (wrap64 (Int.tdiv (wrap64 ((wrap64 (16 + t618)) + 7)) 8)) then ((purlinlaw11_awake.f kj52).bind fun t656 => (some t656)) else (some false)) else (some false)) else (some false)))) else (some false))) = some r := H
                    have A57 := Aside0.mk A570
                    clear A570
                    replace H := Option.bind_eq_some_iff.mp H
                    obtain ⟨t651, A580, H⟩ := H
                    replace H : (if t651 = true then ((bits_All.f kj52 t639 (wrap64 (16 + t618))).bind fun t652 => ((purlinlaw0_SameInts.f kj52 t652 x10_1).bind fun t655 => (if t655 = true then (if (t638.length : Int) = (wrap64 (Int.tdiv (wrap64 ((wrap64 (4 + t617)) + 7)) 8)) then (if (t639.length : Int) = (wrap64 (Int.tdiv (wrap64 ((wrap64 (16 + t618)) + 7)) 8)) then ((purlinlaw11_awake.f kj52).bind fun t656 => (some t656)) else (some false)) else (some false)) else (some false)))) else (some false)) = some r := H
                    have A58 := Aside0.mk A580
                    clear A580
                    by_cases c59 : t651 = true
                    · subst c59
                      have H1 : ((bits_All.f kj52 t639 (wrap64 (16 + t618))).bind fun t652 => ((purlinlaw0_SameInts.f kj52 t652 x10_1).bind fun t655 => (if t655 = true then (if (t638.length : Int) = (wrap64 (Int.tdiv (wrap64 ((wrap64 (4 + t617)) + 7)) 8)) then (if (t639.length : Int) = (wrap64 (Int.tdiv (wrap64 ((wrap64 (16 + t618)) + 7)) 8)) then ((purlinlaw11_awake.f kj52).bind fun t656 => (some t656)) else (some false)) else (some false)) else (some false)))) = some r := by rw [if_pos rfl] at H; exact H
                      clear H
                      have H := H1
                      clear H1
                      replace H := Option.bind_eq_some_iff.mp H
                      obtain ⟨t652, A600, H⟩ := H
                      replace H : ((purlinlaw0_SameInts.f kj52 t652 x10_1).bind fun t655 => (if t655 = true then (if (t638.length : Int) = (wrap64 (Int.tdiv (wrap64 ((wrap64 (4 + t617)) + 7)) 8)) then (if (t639.length : Int) = (wrap64 (Int.tdiv (wrap64 ((wrap64 (16 + t618)) + 7)) 8)) then ((purlinlaw11_awake.f kj52).bind fun t656 => (some t656)) else (some false)) else (some false)) else (some false))) = some r := H
                      have A60 := Aside0.mk A600
                      clear A600
                      replace H := Option.bind_eq_some_iff.mp H
                      obtain ⟨t655, A610, H⟩ := H
                      replace H : (if t655 = true then (if (t638.length : Int) = (wrap64 (Int.tdiv (wrap64 ((wrap64 (4 + t617)) + 7)) 8)) then (if (t639.length : Int) = (wrap64 (Int.tdiv (wrap64 ((wrap64 (16 + t618)) + 7)) 8)) then ((purlinlaw11_awake.f kj52).bind fun t656 => (some t656)) else (some false)) else (some false)) else (some false)) = some r := H
                      have A61 := Aside0.mk A610
                      clear A610
                      by_cases c62 : t655 = true
                      · subst c62
                        have H1 : (if (t638.length : Int) = (wrap64 (Int.tdiv (wrap64 ((wrap64 (4 + t617)) + 7)) 8)) then (if (t639.length : Int) = (wrap64 (Int.tdiv (wrap64 ((wrap64 (16 + t618)) + 7)) 8)) then ((purlinlaw11_awake.f kj52).bind fun t656 => (some t656)) else (some false)) else (some false)) = some r := by rw [if_pos rfl] at H; exact H
                        clear H
                        have H := H1
                        clear H1
                        by_cases c63 : (t638.length : Int) = (wrap64 (Int.tdiv (wrap64 ((wrap64 (4 + t617)) + 7)) 8))
                        · rw [if_pos c63] at H
                          have c63b0 : ((t638.length : Int) == (wrap64 (Int.tdiv (wrap64 ((wrap64 (4 + t617)) + 7)) 8))) = true := beq_iff_eq.mpr c63
                          have c63b1 : ((t638.length : Int) != (wrap64 (Int.tdiv (wrap64 ((wrap64 (4 + t617)) + 7)) 8))) = false := bne_eq_false_iff_eq.mpr c63
                          clear c63
                          by_cases c64 : (t639.length : Int) = (wrap64 (Int.tdiv (wrap64 ((wrap64 (16 + t618)) + 7)) 8))
                          · rw [if_pos c64] at H
                            have c64b0 : ((t639.length : Int) == (wrap64 (Int.tdiv (wrap64 ((wrap64 (16 + t618)) + 7)) 8))) = true := beq_iff_eq.mpr c64
                            have c64b1 : ((t639.length : Int) != (wrap64 (Int.tdiv (wrap64 ((wrap64 (16 + t618)) + 7)) 8))) = false := bne_eq_false_iff_eq.mpr c64
                            clear c64
                            replace H := Option.bind_eq_some_iff.mp H
                            obtain ⟨t656, A650, H⟩ := H
                            replace H : (some t656) = some r := H
                            have A65 := Aside0.mk A650
                            clear A650
                            obtain rfl := Option.some.inj H
                            obtain ⟨Ao66, co66, eo66⟩ := Kd.R_slice HO_14.out
                            subst eo66
                            go_wp2_with (first | (go_at_call 44; (with_reducible refine (bits_All.calls kj52 _ _ t638 (wrap64 (4 + t617)) t648 _ ?side1 ?side2 A57.out).mono ?_); (case side1 => repeat (first | exact (Kd.R_reads' HO_14.out).2.2 | (with_reducible refine Kd.C_alloc ?_ _) | (with_reducible refine Kd.C_drewN ?_ _) | (with_reducible refine Kd.C_drew ?_))); (case side2 => exact (Kd.R_reads' HO_14.out).2.1); rintro e w67 ⟨v649, rfl, ho0, hb⟩; have n0_ := Aside0.mk (Kd.R_elder' (by (with_reducible repeat (first | apply Kd.R_alloc | apply Kd.R_drewN | apply Kd.R_drew)); exact HO_9.out) (Kd.R_base ho0) hb); have n1_ := Aside0.mk (Kd.R_elder' (by (with_reducible repeat (first | apply Kd.R_alloc | apply Kd.R_drewN | apply Kd.R_drew)); exact HO_10.out) (Kd.R_base ho0) hb); have n2_ := Aside0.mk (Kd.R_below (by (with_reducible repeat (first | apply Kd.R_alloc | apply Kd.R_drewN | apply Kd.R_drew)); exact HO_14.out) hb); have n3_ := Aside0.mk (Kd.R_below (by (with_reducible repeat (first | apply Kd.R_alloc | apply Kd.R_drewN | apply Kd.R_drew)); exact HO_15.out) hb); have n4_ := Aside0.mk (Kd.R_lower (Kd.R_new' (Kd.R_new' ho0 (Kd.R_lt (by (with_reducible repeat (first | apply Kd.R_alloc | apply Kd.R_drewN | apply Kd.R_drew)); exact HO_9.out))) (Kd.R_lt (by (with_reducible repeat (first | apply Kd.R_alloc | apply Kd.R_drewN | apply Kd.R_drew)); exact HO_10.out))) (below_size (by repeat (first | (with_reducible first | exact HB.out | apply below_alloc | apply pw_below_drewN | apply below_drew1) | exact HB.out)))); have n5_ := Aside0.mk (below_step (by repeat (first | (with_reducible first | exact HB.out | apply below_alloc | apply pw_below_drewN | apply below_drew1) | exact HB.out)) hb); clear HO_9; clear HO_10; clear HO_14; clear HO_15; clear HB; have HO_9 := n0_; have HO_10 := n1_; have HO_14 := n2_; have HO_15 := n3_; have HO650 := n4_; have HB := n5_; clear n0_ n1_ n2_ n3_ n4_ n5_; (try clear hb); (try clear hb2); (try clear hk); (try clear hi); (try clear ho0); obtain ⟨Ao68, co68, eo68⟩ := Kd.R_slice HO650.out; subst eo68) | (go_at_call 61; (with_reducible refine (purlinlaw0_SameInts.calls kj52 _ _ t648 _ _ x9_1 true _ ?side1 ?side2 ?side3 ?side4 A58.out).mono ?_); (case side1 => repeat (first | exact (Kd.R_reads' HO650.out).2.2 | (with_reducible refine Kd.C_alloc ?_ _) | (with_reducible refine Kd.C_drewN ?_ _) | (with_reducible refine Kd.C_drew ?_))); (case side2 => exact (Kd.R_reads' HO650.out).2.1); (case side3 => repeat (first | exact (Kd.R_reads' HO_9.out).2.2 | (with_reducible refine Kd.C_alloc ?_ _) | (with_reducible refine Kd.C_drewN ?_ _) | (with_reducible refine Kd.C_drew ?_))); (case side4 => exact (Kd.R_reads' HO_9.out).2.1); rintro e w' ⟨rfl, ⟨nd, rfl⟩⟩; obtain ⟨Ao69, co69, eo69⟩ := Kd.R_slice HO_15.out; subst eo69) | (go_at_call 44; (with_reducible refine (bits_All.calls kj52 _ _ t639 (wrap64 (16 + t618)) t652 _ ?side1 ?side2 A60.out).mono ?_); (case side1 => repeat (first | exact (Kd.R_reads' HO_15.out).2.2 | (with_reducible refine Kd.C_alloc ?_ _) | (with_reducible refine Kd.C_drewN ?_ _) | (with_reducible refine Kd.C_drew ?_))); (case side2 => exact (Kd.R_reads' HO_15.out).2.1); rintro e w70 ⟨v653, rfl, ho0, hb⟩; have n0_ := Aside0.mk (Kd.R_elder' (by (with_reducible repeat (first | apply Kd.R_alloc | apply Kd.R_drewN | apply Kd.R_drew)); exact HO_9.out) (Kd.R_base ho0) hb); have n1_ := Aside0.mk (Kd.R_elder' (by (with_reducible repeat (first | apply Kd.R_alloc | apply Kd.R_drewN | apply Kd.R_drew)); exact HO_10.out) (Kd.R_base ho0) hb); have n2_ := Aside0.mk (Kd.R_below (by (with_reducible repeat (first | apply Kd.R_alloc | apply Kd.R_drewN | apply Kd.R_drew)); exact HO_14.out) hb); have n3_ := Aside0.mk (Kd.R_below (by (with_reducible repeat (first | apply Kd.R_alloc | apply Kd.R_drewN | apply Kd.R_drew)); exact HO_15.out) hb); have n4_ := Aside0.mk (Kd.R_elder' (by (with_reducible repeat (first | apply Kd.R_alloc | apply Kd.R_drewN | apply Kd.R_drew)); exact HO650.out) (Kd.R_base ho0) hb); have n5_ := Aside0.mk (Kd.R_lower (Kd.R_new' (Kd.R_new' (Kd.R_new' ho0 (Kd.R_lt (by (with_reducible repeat (first | apply Kd.R_alloc | apply Kd.R_drewN | apply Kd.R_drew)); exact HO_9.out))) (Kd.R_lt (by (with_reducible repeat (first | apply Kd.R_alloc | apply Kd.R_drewN | apply Kd.R_drew)); exact HO_10.out))) (Kd.R_lt (by (with_reducible repeat (first | apply Kd.R_alloc | apply Kd.R_drewN | apply Kd.R_drew)); exact HO650.out))) (below_size (by repeat (first | (with_reducible first | exact HB.out | apply below_alloc | apply pw_below_drewN | apply below_drew1) | exact HB.out)))); have n6_ := Aside0.mk (below_step (by repeat (first | (with_reducible first | exact HB.out | apply below_alloc | apply pw_below_drewN | apply below_drew1) | exact HB.out)) hb); clear HO_9; clear HO_10; clear HO_14; clear HO_15; clear HO650; clear HB; have HO_9 := n0_; have HO_10 := n1_; have HO_14 := n2_; have HO_15 := n3_; have HO650 := n4_; have HO654 := n5_; have HB := n6_; clear n0_ n1_ n2_ n3_ n4_ n5_ n6_; (try clear hb); (try clear hb2); (try clear hk); (try clear hi); (try clear ho0); obtain ⟨Ao71, co71, eo71⟩ := Kd.R_slice HO654.out; subst eo71) | (go_at_call 61; (with_reducible refine (purlinlaw0_SameInts.calls kj52 _ _ t652 _ _ x10_1 true _ ?side1 ?side2 ?side3 ?side4 A61.out).mono ?_); (case side1 => repeat (first | exact (Kd.R_reads' HO654.out).2.2 | (with_reducible refine Kd.C_alloc ?_ _) | (with_reducible refine Kd.C_drewN ?_ _) | (with_reducible refine Kd.C_drew ?_))); (case side2 => exact (Kd.R_reads' HO654.out).2.1); (case side3 => repeat (first | exact (Kd.R_reads' HO_10.out).2.2 | (with_reducible refine Kd.C_alloc ?_ _) | (with_reducible refine Kd.C_drewN ?_ _) | (with_reducible refine Kd.C_drew ?_))); (case side4 => exact (Kd.R_reads' HO_10.out).2.1); rintro e w' ⟨rfl, ⟨nd, rfl⟩⟩) | (go_at_call 56; (with_reducible refine (purlinlaw11_awake.calls kj52  t656 _ A65.out).mono ?_); rintro e w72 ⟨rfl, hb⟩; have n0_ := Aside0.mk (Kd.R_below (by (with_reducible repeat (first | apply Kd.R_alloc | apply Kd.R_drewN | apply Kd.R_drew)); exact HO_9.out) hb); have n1_ := Aside0.mk (Kd.R_below (by (with_reducible repeat (first | apply Kd.R_alloc | apply Kd.R_drewN | apply Kd.R_drew)); exact HO_10.out) hb); have n2_ := Aside0.mk (Kd.R_below (by (with_reducible repeat (first | apply Kd.R_alloc | apply Kd.R_drewN | apply Kd.R_drew)); exact HO_14.out) hb); have n3_ := Aside0.mk (Kd.R_below (by (with_reducible repeat (first | apply Kd.R_alloc | apply Kd.R_drewN | apply Kd.R_drew)); exact HO_15.out) hb); have n4_ := Aside0.mk (Kd.R_below (by (with_reducible repeat (first | apply Kd.R_alloc | apply Kd.R_drewN | apply Kd.R_drew)); exact HO650.out) hb); have n5_ := Aside0.mk (Kd.R_below (by (with_reducible repeat (first | apply Kd.R_alloc | apply Kd.R_drewN | apply Kd.R_drew)); exact HO654.out) hb); have n6_ := Aside0.mk (below_step (by repeat (first | (with_reducible first | exact HB.out | apply below_alloc | apply pw_below_drewN | apply below_drew1) | exact HB.out)) hb); clear HO_9; clear HO_10; clear HO_14; clear HO_15; clear HO650; clear HO654; clear HB; have HO_9 := n0_; have HO_10 := n1_; have HO_14 := n2_; have HO_15 := n3_; have HO650 := n4_; have HO654 := n5_; have HB := n6_; clear n0_ n1_ n2_ n3_ n4_ n5_ n6_; (try clear hb); (try clear hb2); (try clear hk); (try clear hi)))
                            go_ret
                            exact ⟨by first | rfl | (simp [errW_none, errW_some] <;> rfl) | (simp [*, errW_none, errW_some] <;> rfl), by repeat (first | (with_reducible first | exact HB.out | apply below_alloc | apply pw_below_drewN | apply below_drew1) | exact HB.out)⟩
                          · rw [if_neg c64] at H
                            have c64b0 : ((t639.length : Int) == (wrap64 (Int.tdiv (wrap64 ((wrap64 (16 + t618)) + 7)) 8))) = false := beq_eq_false_iff_ne.mpr c64
                            have c64b1 : ((t639.length : Int) != (wrap64 (Int.tdiv (wrap64 ((wrap64 (16 + t618)) + 7)) 8))) = true := bne_iff_ne.mpr c64
                            obtain rfl := Option.some.inj H
                            obtain ⟨Ao73, co73, eo73⟩ := Kd.R_slice HO_14.out
                            subst eo73
                            go_wp2_with (first | (go_at_call 44; (with_reducible refine (bits_All.calls kj52 _ _ t638 (wrap64 (4 + t617)) t648 _ ?side1 ?side2 A57.out).mono ?_); (case side1 => repeat (first | exact (Kd.R_reads' HO_14.out).2.2 | (with_reducible refine Kd.C_alloc ?_ _) | (with_reducible refine Kd.C_drewN ?_ _) | (with_reducible refine Kd.C_drew ?_))); (case side2 => exact (Kd.R_reads' HO_14.out).2.1); rintro e w74 ⟨v649, rfl, ho0, hb⟩; have n0_ := Aside0.mk (Kd.R_elder' (by (with_reducible repeat (first | apply Kd.R_alloc | apply Kd.R_drewN | apply Kd.R_drew)); exact HO_9.out) (Kd.R_base ho0) hb); have n1_ := Aside0.mk (Kd.R_elder' (by (with_reducible repeat (first | apply Kd.R_alloc | apply Kd.R_drewN | apply Kd.R_drew)); exact HO_10.out) (Kd.R_base ho0) hb); have n2_ := Aside0.mk (Kd.R_below (by (with_reducible repeat (first | apply Kd.R_alloc | apply Kd.R_drewN | apply Kd.R_drew)); exact HO_14.out) hb); have n3_ := Aside0.mk (Kd.R_below (by (with_reducible repeat (first | apply Kd.R_alloc | apply Kd.R_drewN | apply Kd.R_drew)); exact HO_15.out) hb); have n4_ := Aside0.mk (Kd.R_lower (Kd.R_new' (Kd.R_new' ho0 (Kd.R_lt (by (with_reducible repeat (first | apply Kd.R_alloc | apply Kd.R_drewN | apply Kd.R_drew)); exact HO_9.out))) (Kd.R_lt (by (with_reducible repeat (first | apply Kd.R_alloc | apply Kd.R_drewN | apply Kd.R_drew)); exact HO_10.out))) (below_size (by repeat (first | (with_reducible first | exact HB.out | apply below_alloc | apply pw_below_drewN | apply below_drew1) | exact HB.out)))); have n5_ := Aside0.mk (below_step (by repeat (first | (with_reducible first | exact HB.out | apply below_alloc | apply pw_below_drewN | apply below_drew1) | exact HB.out)) hb); clear HO_9; clear HO_10; clear HO_14; clear HO_15; clear HB; have HO_9 := n0_; have HO_10 := n1_; have HO_14 := n2_; have HO_15 := n3_; have HO650 := n4_; have HB := n5_; clear n0_ n1_ n2_ n3_ n4_ n5_; (try clear hb); (try clear hb2); (try clear hk); (try clear hi); (try clear ho0); obtain ⟨Ao75, co75, eo75⟩ := Kd.R_slice HO650.out; subst eo75) | (go_at_call 61; (with_reducible refine (purlinlaw0_SameInts.calls kj52 _ _ t648 _ _ x9_1 true _ ?side1 ?side2 ?side3 ?side4 A58.out).mono ?_); (case side1 => repeat (first | exact (Kd.R_reads' HO650.out).2.2 | (with_reducible refine Kd.C_alloc ?_ _) | (with_reducible refine Kd.C_drewN ?_ _) | (with_reducible refine Kd.C_drew ?_))); (case side2 => exact (Kd.R_reads' HO650.out).2.1); (case side3 => repeat (first | exact (Kd.R_reads' HO_9.out).2.2 | (with_reducible refine Kd.C_alloc ?_ _) | (with_reducible refine Kd.C_drewN ?_ _) | (with_reducible refine Kd.C_drew ?_))); (case side4 => exact (Kd.R_reads' HO_9.out).2.1); rintro e w' ⟨rfl, ⟨nd, rfl⟩⟩; obtain ⟨Ao76, co76, eo76⟩ := Kd.R_slice HO_15.out; subst eo76) | (go_at_call 44; (with_reducible refine (bits_All.calls kj52 _ _ t639 (wrap64 (16 + t618)) t652 _ ?side1 ?side2 A60.out).mono ?_); (case side1 => repeat (first | exact (Kd.R_reads' HO_15.out).2.2 | (with_reducible refine Kd.C_alloc ?_ _) | (with_reducible refine Kd.C_drewN ?_ _) | (with_reducible refine Kd.C_drew ?_))); (case side2 => exact (Kd.R_reads' HO_15.out).2.1); rintro e w77 ⟨v653, rfl, ho0, hb⟩; have n0_ := Aside0.mk (Kd.R_elder' (by (with_reducible repeat (first | apply Kd.R_alloc | apply Kd.R_drewN | apply Kd.R_drew)); exact HO_9.out) (Kd.R_base ho0) hb); have n1_ := Aside0.mk (Kd.R_elder' (by (with_reducible repeat (first | apply Kd.R_alloc | apply Kd.R_drewN | apply Kd.R_drew)); exact HO_10.out) (Kd.R_base ho0) hb); have n2_ := Aside0.mk (Kd.R_below (by (with_reducible repeat (first | apply Kd.R_alloc | apply Kd.R_drewN | apply Kd.R_drew)); exact HO_14.out) hb); have n3_ := Aside0.mk (Kd.R_below (by (with_reducible repeat (first | apply Kd.R_alloc | apply Kd.R_drewN | apply Kd.R_drew)); exact HO_15.out) hb); have n4_ := Aside0.mk (Kd.R_elder' (by (with_reducible repeat (first | apply Kd.R_alloc | apply Kd.R_drewN | apply Kd.R_drew)); exact HO650.out) (Kd.R_base ho0) hb); have n5_ := Aside0.mk (Kd.R_lower (Kd.R_new' (Kd.R_new' (Kd.R_new' ho0 (Kd.R_lt (by (with_reducible repeat (first | apply Kd.R_alloc | apply Kd.R_drewN | apply Kd.R_drew)); exact HO_9.out))) (Kd.R_lt (by (with_reducible repeat (first | apply Kd.R_alloc | apply Kd.R_drewN | apply Kd.R_drew)); exact HO_10.out))) (Kd.R_lt (by (with_reducible repeat (first | apply Kd.R_alloc | apply Kd.R_drewN | apply Kd.R_drew)); exact HO650.out))) (below_size (by repeat (first | (with_reducible first | exact HB.out | apply below_alloc | apply pw_below_drewN | apply below_drew1) | exact HB.out)))); have n6_ := Aside0.mk (below_step (by repeat (first | (with_reducible first | exact HB.out | apply below_alloc | apply pw_below_drewN | apply below_drew1) | exact HB.out)) hb); clear HO_9; clear HO_10; clear HO_14; clear HO_15; clear HO650; clear HB; have HO_9 := n0_; have HO_10 := n1_; have HO_14 := n2_; have HO_15 := n3_; have HO650 := n4_; have HO654 := n5_; have HB := n6_; clear n0_ n1_ n2_ n3_ n4_ n5_ n6_; (try clear hb); (try clear hb2); (try clear hk); (try clear hi); (try clear ho0); obtain ⟨Ao78, co78, eo78⟩ := Kd.R_slice HO654.out; subst eo78) | (go_at_call 61; (with_reducible refine (purlinlaw0_SameInts.calls kj52 _ _ t652 _ _ x10_1 true _ ?side1 ?side2 ?side3 ?side4 A61.out).mono ?_); (case side1 => repeat (first | exact (Kd.R_reads' HO654.out).2.2 | (with_reducible refine Kd.C_alloc ?_ _) | (with_reducible refine Kd.C_drewN ?_ _) | (with_reducible refine Kd.C_drew ?_))); (case side2 => exact (Kd.R_reads' HO654.out).2.1); (case side3 => repeat (first | exact (Kd.R_reads' HO_10.out).2.2 | (with_reducible refine Kd.C_alloc ?_ _) | (with_reducible refine Kd.C_drewN ?_ _) | (with_reducible refine Kd.C_drew ?_))); (case side4 => exact (Kd.R_reads' HO_10.out).2.1); rintro e w' ⟨rfl, ⟨nd, rfl⟩⟩))
                            go_ret
                            exact ⟨by first | rfl | (simp [errW_none, errW_some] <;> rfl) | (simp [*, errW_none, errW_some] <;> rfl), by repeat (first | (with_reducible first | exact HB.out | apply below_alloc | apply pw_below_drewN | apply below_drew1) | exact HB.out)⟩
                        · rw [if_neg c63] at H
                          have c63b0 : ((t638.length : Int) == (wrap64 (Int.tdiv (wrap64 ((wrap64 (4 + t617)) + 7)) 8))) = false := beq_eq_false_iff_ne.mpr c63
                          have c63b1 : ((t638.length : Int) != (wrap64 (Int.tdiv (wrap64 ((wrap64 (4 + t617)) + 7)) 8))) = true := bne_iff_ne.mpr c63
                          obtain rfl := Option.some.inj H
                          obtain ⟨Ao79, co79, eo79⟩ := Kd.R_slice HO_14.out
                          subst eo79
                          go_wp2_with (first | (go_at_call 44; (with_reducible refine (bits_All.calls kj52 _ _ t638 (wrap64 (4 + t617)) t648 _ ?side1 ?side2 A57.out).mono ?_); (case side1 => repeat (first | exact (Kd.R_reads' HO_14.out).2.2 | (with_reducible refine Kd.C_alloc ?_ _) | (with_reducible refine Kd.C_drewN ?_ _) | (with_reducible refine Kd.C_drew ?_))); (case side2 => exact (Kd.R_reads' HO_14.out).2.1); rintro e w80 ⟨v649, rfl, ho0, hb⟩; have n0_ := Aside0.mk (Kd.R_elder' (by (with_reducible repeat (first | apply Kd.R_alloc | apply Kd.R_drewN | apply Kd.R_drew)); exact HO_9.out) (Kd.R_base ho0) hb); have n1_ := Aside0.mk (Kd.R_elder' (by (with_reducible repeat (first | apply Kd.R_alloc | apply Kd.R_drewN | apply Kd.R_drew)); exact HO_10.out) (Kd.R_base ho0) hb); have n2_ := Aside0.mk (Kd.R_below (by (with_reducible repeat (first | apply Kd.R_alloc | apply Kd.R_drewN | apply Kd.R_drew)); exact HO_14.out) hb); have n3_ := Aside0.mk (Kd.R_below (by (with_reducible repeat (first | apply Kd.R_alloc | apply Kd.R_drewN | apply Kd.R_drew)); exact HO_15.out) hb); have n4_ := Aside0.mk (Kd.R_lower (Kd.R_new' (Kd.R_new' ho0 (Kd.R_lt (by (with_reducible repeat (first | apply Kd.R_alloc | apply Kd.R_drewN | apply Kd.R_drew)); exact HO_9.out))) (Kd.R_lt (by (with_reducible repeat (first | apply Kd.R_alloc | apply Kd.R_drewN | apply Kd.R_drew)); exact HO_10.out))) (below_size (by repeat (first | (with_reducible first | exact HB.out | apply below_alloc | apply pw_below_drewN | apply below_drew1) | exact HB.out)))); have n5_ := Aside0.mk (below_step (by repeat (first | (with_reducible first | exact HB.out | apply below_alloc | apply pw_below_drewN | apply below_drew1) | exact HB.out)) hb); clear HO_9; clear HO_10; clear HO_14; clear HO_15; clear HB; have HO_9 := n0_; have HO_10 := n1_; have HO_14 := n2_; have HO_15 := n3_; have HO650 := n4_; have HB := n5_; clear n0_ n1_ n2_ n3_ n4_ n5_; (try clear hb); (try clear hb2); (try clear hk); (try clear hi); (try clear ho0); obtain ⟨Ao81, co81, eo81⟩ := Kd.R_slice HO650.out; subst eo81) | (go_at_call 61; (with_reducible refine (purlinlaw0_SameInts.calls kj52 _ _ t648 _ _ x9_1 true _ ?side1 ?side2 ?side3 ?side4 A58.out).mono ?_); (case side1 => repeat (first | exact (Kd.R_reads' HO650.out).2.2 | (with_reducible refine Kd.C_alloc ?_ _) | (with_reducible refine Kd.C_drewN ?_ _) | (with_reducible refine Kd.C_drew ?_))); (case side2 => exact (Kd.R_reads' HO650.out).2.1); (case side3 => repeat (first | exact (Kd.R_reads' HO_9.out).2.2 | (with_reducible refine Kd.C_alloc ?_ _) | (with_reducible refine Kd.C_drewN ?_ _) | (with_reducible refine Kd.C_drew ?_))); (case side4 => exact (Kd.R_reads' HO_9.out).2.1); rintro e w' ⟨rfl, ⟨nd, rfl⟩⟩; obtain ⟨Ao82, co82, eo82⟩ := Kd.R_slice HO_15.out; subst eo82) | (go_at_call 44; (with_reducible refine (bits_All.calls kj52 _ _ t639 (wrap64 (16 + t618)) t652 _ ?side1 ?side2 A60.out).mono ?_); (case side1 => repeat (first | exact (Kd.R_reads' HO_15.out).2.2 | (with_reducible refine Kd.C_alloc ?_ _) | (with_reducible refine Kd.C_drewN ?_ _) | (with_reducible refine Kd.C_drew ?_))); (case side2 => exact (Kd.R_reads' HO_15.out).2.1); rintro e w83 ⟨v653, rfl, ho0, hb⟩; have n0_ := Aside0.mk (Kd.R_elder' (by (with_reducible repeat (first | apply Kd.R_alloc | apply Kd.R_drewN | apply Kd.R_drew)); exact HO_9.out) (Kd.R_base ho0) hb); have n1_ := Aside0.mk (Kd.R_elder' (by (with_reducible repeat (first | apply Kd.R_alloc | apply Kd.R_drewN | apply Kd.R_drew)); exact HO_10.out) (Kd.R_base ho0) hb); have n2_ := Aside0.mk (Kd.R_below (by (with_reducible repeat (first | apply Kd.R_alloc | apply Kd.R_drewN | apply Kd.R_drew)); exact HO_14.out) hb); have n3_ := Aside0.mk (Kd.R_below (by (with_reducible repeat (first | apply Kd.R_alloc | apply Kd.R_drewN | apply Kd.R_drew)); exact HO_15.out) hb); have n4_ := Aside0.mk (Kd.R_elder' (by (with_reducible repeat (first | apply Kd.R_alloc | apply Kd.R_drewN | apply Kd.R_drew)); exact HO650.out) (Kd.R_base ho0) hb); have n5_ := Aside0.mk (Kd.R_lower (Kd.R_new' (Kd.R_new' (Kd.R_new' ho0 (Kd.R_lt (by (with_reducible repeat (first | apply Kd.R_alloc | apply Kd.R_drewN | apply Kd.R_drew)); exact HO_9.out))) (Kd.R_lt (by (with_reducible repeat (first | apply Kd.R_alloc | apply Kd.R_drewN | apply Kd.R_drew)); exact HO_10.out))) (Kd.R_lt (by (with_reducible repeat (first | apply Kd.R_alloc | apply Kd.R_drewN | apply Kd.R_drew)); exact HO650.out))) (below_size (by repeat (first | (with_reducible first | exact HB.out | apply below_alloc | apply pw_below_drewN | apply below_drew1) | exact HB.out)))); have n6_ := Aside0.mk (below_step (by repeat (first | (with_reducible first | exact HB.out | apply below_alloc | apply pw_below_drewN | apply below_drew1) | exact HB.out)) hb); clear HO_9; clear HO_10; clear HO_14; clear HO_15; clear HO650; clear HB; have HO_9 := n0_; have HO_10 := n1_; have HO_14 := n2_; have HO_15 := n3_; have HO650 := n4_; have HO654 := n5_; have HB := n6_; clear n0_ n1_ n2_ n3_ n4_ n5_ n6_; (try clear hb); (try clear hb2); (try clear hk); (try clear hi); (try clear ho0); obtain ⟨Ao84, co84, eo84⟩ := Kd.R_slice HO654.out; subst eo84) | (go_at_call 61; (with_reducible refine (purlinlaw0_SameInts.calls kj52 _ _ t652 _ _ x10_1 true _ ?side1 ?side2 ?side3 ?side4 A61.out).mono ?_); (case side1 => repeat (first | exact (Kd.R_reads' HO654.out).2.2 | (with_reducible refine Kd.C_alloc ?_ _) | (with_reducible refine Kd.C_drewN ?_ _) | (with_reducible refine Kd.C_drew ?_))); (case side2 => exact (Kd.R_reads' HO654.out).2.1); (case side3 => repeat (first | exact (Kd.R_reads' HO_10.out).2.2 | (with_reducible refine Kd.C_alloc ?_ _) | (with_reducible refine Kd.C_drewN ?_ _) | (with_reducible refine Kd.C_drew ?_))); (case side4 => exact (Kd.R_reads' HO_10.out).2.1); rintro e w' ⟨rfl, ⟨nd, rfl⟩⟩))
                          go_ret
                          exact ⟨by first | rfl | (simp [errW_none, errW_some] <;> rfl) | (simp [*, errW_none, errW_some] <;> rfl), by repeat (first | (with_reducible first | exact HB.out | apply below_alloc | apply pw_below_drewN | apply below_drew1) | exact HB.out)⟩
                      · replace c62 := Bool.eq_false_iff.mpr c62
                        subst c62
                        have H1 : (some false) = some r := by rw [if_neg (show ¬ (false = true) by decide)] at H; exact H
                        clear H
                        have H := H1
                        clear H1
                        obtain rfl := Option.some.inj H
                        obtain ⟨Ao85, co85, eo85⟩ := Kd.R_slice HO_14.out
                        subst eo85
                        go_wp2_with (first | (go_at_call 44; (with_reducible refine (bits_All.calls kj52 _ _ t638 (wrap64 (4 + t617)) t648 _ ?side1 ?side2 A57.out).mono ?_); (case side1 => repeat (first | exact (Kd.R_reads' HO_14.out).2.2 | (with_reducible refine Kd.C_alloc ?_ _) | (with_reducible refine Kd.C_drewN ?_ _) | (with_reducible refine Kd.C_drew ?_))); (case side2 => exact (Kd.R_reads' HO_14.out).2.1); rintro e w86 ⟨v649, rfl, ho0, hb⟩; have n0_ := Aside0.mk (Kd.R_elder' (by (with_reducible repeat (first | apply Kd.R_alloc | apply Kd.R_drewN | apply Kd.R_drew)); exact HO_9.out) (Kd.R_base ho0) hb); have n1_ := Aside0.mk (Kd.R_elder' (by (with_reducible repeat (first | apply Kd.R_alloc | apply Kd.R_drewN | apply Kd.R_drew)); exact HO_10.out) (Kd.R_base ho0) hb); have n2_ := Aside0.mk (Kd.R_below (by (with_reducible repeat (first | apply Kd.R_alloc | apply Kd.R_drewN | apply Kd.R_drew)); exact HO_14.out) hb); have n3_ := Aside0.mk (Kd.R_below (by (with_reducible repeat (first | apply Kd.R_alloc | apply Kd.R_drewN | apply Kd.R_drew)); exact HO_15.out) hb); have n4_ := Aside0.mk (Kd.R_lower (Kd.R_new' (Kd.R_new' ho0 (Kd.R_lt (by (with_reducible repeat (first | apply Kd.R_alloc | apply Kd.R_drewN | apply Kd.R_drew)); exact HO_9.out))) (Kd.R_lt (by (with_reducible repeat (first | apply Kd.R_alloc | apply Kd.R_drewN | apply Kd.R_drew)); exact HO_10.out))) (below_size (by repeat (first | (with_reducible first | exact HB.out | apply below_alloc | apply pw_below_drewN | apply below_drew1) | exact HB.out)))); have n5_ := Aside0.mk (below_step (by repeat (first | (with_reducible first | exact HB.out | apply below_alloc | apply pw_below_drewN | apply below_drew1) | exact HB.out)) hb); clear HO_9; clear HO_10; clear HO_14; clear HO_15; clear HB; have HO_9 := n0_; have HO_10 := n1_; have HO_14 := n2_; have HO_15 := n3_; have HO650 := n4_; have HB := n5_; clear n0_ n1_ n2_ n3_ n4_ n5_; (try clear hb); (try clear hb2); (try clear hk); (try clear hi); (try clear ho0); obtain ⟨Ao87, co87, eo87⟩ := Kd.R_slice HO650.out; subst eo87) | (go_at_call 61; (with_reducible refine (purlinlaw0_SameInts.calls kj52 _ _ t648 _ _ x9_1 true _ ?side1 ?side2 ?side3 ?side4 A58.out).mono ?_); (case side1 => repeat (first | exact (Kd.R_reads' HO650.out).2.2 | (with_reducible refine Kd.C_alloc ?_ _) | (with_reducible refine Kd.C_drewN ?_ _) | (with_reducible refine Kd.C_drew ?_))); (case side2 => exact (Kd.R_reads' HO650.out).2.1); (case side3 => repeat (first | exact (Kd.R_reads' HO_9.out).2.2 | (with_reducible refine Kd.C_alloc ?_ _) | (with_reducible refine Kd.C_drewN ?_ _) | (with_reducible refine Kd.C_drew ?_))); (case side4 => exact (Kd.R_reads' HO_9.out).2.1); rintro e w' ⟨rfl, ⟨nd, rfl⟩⟩; obtain ⟨Ao88, co88, eo88⟩ := Kd.R_slice HO_15.out; subst eo88) | (go_at_call 44; (with_reducible refine (bits_All.calls kj52 _ _ t639 (wrap64 (16 + t618)) t652 _ ?side1 ?side2 A60.out).mono ?_); (case side1 => repeat (first | exact (Kd.R_reads' HO_15.out).2.2 | (with_reducible refine Kd.C_alloc ?_ _) | (with_reducible refine Kd.C_drewN ?_ _) | (with_reducible refine Kd.C_drew ?_))); (case side2 => exact (Kd.R_reads' HO_15.out).2.1); rintro e w89 ⟨v653, rfl, ho0, hb⟩; have n0_ := Aside0.mk (Kd.R_elder' (by (with_reducible repeat (first | apply Kd.R_alloc | apply Kd.R_drewN | apply Kd.R_drew)); exact HO_9.out) (Kd.R_base ho0) hb); have n1_ := Aside0.mk (Kd.R_elder' (by (with_reducible repeat (first | apply Kd.R_alloc | apply Kd.R_drewN | apply Kd.R_drew)); exact HO_10.out) (Kd.R_base ho0) hb); have n2_ := Aside0.mk (Kd.R_below (by (with_reducible repeat (first | apply Kd.R_alloc | apply Kd.R_drewN | apply Kd.R_drew)); exact HO_14.out) hb); have n3_ := Aside0.mk (Kd.R_below (by (with_reducible repeat (first | apply Kd.R_alloc | apply Kd.R_drewN | apply Kd.R_drew)); exact HO_15.out) hb); have n4_ := Aside0.mk (Kd.R_elder' (by (with_reducible repeat (first | apply Kd.R_alloc | apply Kd.R_drewN | apply Kd.R_drew)); exact HO650.out) (Kd.R_base ho0) hb); have n5_ := Aside0.mk (Kd.R_lower (Kd.R_new' (Kd.R_new' (Kd.R_new' ho0 (Kd.R_lt (by (with_reducible repeat (first | apply Kd.R_alloc | apply Kd.R_drewN | apply Kd.R_drew)); exact HO_9.out))) (Kd.R_lt (by (with_reducible repeat (first | apply Kd.R_alloc | apply Kd.R_drewN | apply Kd.R_drew)); exact HO_10.out))) (Kd.R_lt (by (with_reducible repeat (first | apply Kd.R_alloc | apply Kd.R_drewN | apply Kd.R_drew)); exact HO650.out))) (below_size (by repeat (first | (with_reducible first | exact HB.out | apply below_alloc | apply pw_below_drewN | apply below_drew1) | exact HB.out)))); have n6_ := Aside0.mk (below_step (by repeat (first | (with_reducible first | exact HB.out | apply below_alloc | apply pw_below_drewN | apply below_drew1) | exact HB.out)) hb); clear HO_9; clear HO_10; clear HO_14; clear HO_15; clear HO650; clear HB; have HO_9 := n0_; have HO_10 := n1_; have HO_14 := n2_; have HO_15 := n3_; have HO650 := n4_; have HO654 := n5_; have HB := n6_; clear n0_ n1_ n2_ n3_ n4_ n5_ n6_; (try clear hb); (try clear hb2); (try clear hk); (try clear hi); (try clear ho0); obtain ⟨Ao90, co90, eo90⟩ := Kd.R_slice HO654.out; subst eo90) | (go_at_call 61; (with_reducible refine (purlinlaw0_SameInts.calls kj52 _ _ t652 _ _ x10_1 false _ ?side1 ?side2 ?side3 ?side4 A61.out).mono ?_); (case side1 => repeat (first | exact (Kd.R_reads' HO654.out).2.2 | (with_reducible refine Kd.C_alloc ?_ _) | (with_reducible refine Kd.C_drewN ?_ _) | (with_reducible refine Kd.C_drew ?_))); (case side2 => exact (Kd.R_reads' HO654.out).2.1); (case side3 => repeat (first | exact (Kd.R_reads' HO_10.out).2.2 | (with_reducible refine Kd.C_alloc ?_ _) | (with_reducible refine Kd.C_drewN ?_ _) | (with_reducible refine Kd.C_drew ?_))); (case side4 => exact (Kd.R_reads' HO_10.out).2.1); rintro e w' ⟨rfl, ⟨nd, rfl⟩⟩))
                        go_ret
                        exact ⟨by first | rfl | (simp [errW_none, errW_some] <;> rfl) | (simp [*, errW_none, errW_some] <;> rfl), by repeat (first | (with_reducible first | exact HB.out | apply below_alloc | apply pw_below_drewN | apply below_drew1) | exact HB.out)⟩
                    · replace c59 := Bool.eq_false_iff.mpr c59
                      subst c59
                      have H1 : (some false) = some r := by rw [if_neg (show ¬ (false = true) by decide)] at H; exact H
                      clear H
                      have H := H1
                      clear H1
                      obtain rfl := Option.some.inj H
                      obtain ⟨Ao91, co91, eo91⟩ := Kd.R_slice HO_14.out
                      subst eo91
                      go_wp2_with (first | (go_at_call 44; (with_reducible refine (bits_All.calls kj52 _ _ t638 (wrap64 (4 + t617)) t648 _ ?side1 ?side2 A57.out).mono ?_); (case side1 => repeat (first | exact (Kd.R_reads' HO_14.out).2.2 | (with_reducible refine Kd.C_alloc ?_ _) | (with_reducible refine Kd.C_drewN ?_ _) | (with_reducible refine Kd.C_drew ?_))); (case side2 => exact (Kd.R_reads' HO_14.out).2.1); rintro e w92 ⟨v649, rfl, ho0, hb⟩; have n0_ := Aside0.mk (Kd.R_elder' (by (with_reducible repeat (first | apply Kd.R_alloc | apply Kd.R_drewN | apply Kd.R_drew)); exact HO_9.out) (Kd.R_base ho0) hb); have n1_ := Aside0.mk (Kd.R_elder' (by (with_reducible repeat (first | apply Kd.R_alloc | apply Kd.R_drewN | apply Kd.R_drew)); exact HO_10.out) (Kd.R_base ho0) hb); have n2_ := Aside0.mk (Kd.R_below (by (with_reducible repeat (first | apply Kd.R_alloc | apply Kd.R_drewN | apply Kd.R_drew)); exact HO_14.out) hb); have n3_ := Aside0.mk (Kd.R_below (by (with_reducible repeat (first | apply Kd.R_alloc | apply Kd.R_drewN | apply Kd.R_drew)); exact HO_15.out) hb); have n4_ := Aside0.mk (Kd.R_lower (Kd.R_new' (Kd.R_new' ho0 (Kd.R_lt (by (with_reducible repeat (first | apply Kd.R_alloc | apply Kd.R_drewN | apply Kd.R_drew)); exact HO_9.out))) (Kd.R_lt (by (with_reducible repeat (first | apply Kd.R_alloc | apply Kd.R_drewN | apply Kd.R_drew)); exact HO_10.out))) (below_size (by repeat (first | (with_reducible first | exact HB.out | apply below_alloc | apply pw_below_drewN | apply below_drew1) | exact HB.out)))); have n5_ := Aside0.mk (below_step (by repeat (first | (with_reducible first | exact HB.out | apply below_alloc | apply pw_below_drewN | apply below_drew1) | exact HB.out)) hb); clear HO_9; clear HO_10; clear HO_14; clear HO_15; clear HB; have HO_9 := n0_; have HO_10 := n1_; have HO_14 := n2_; have HO_15 := n3_; have HO650 := n4_; have HB := n5_; clear n0_ n1_ n2_ n3_ n4_ n5_; (try clear hb); (try clear hb2); (try clear hk); (try clear hi); (try clear ho0); obtain ⟨Ao93, co93, eo93⟩ := Kd.R_slice HO650.out; subst eo93) | (go_at_call 61; (with_reducible refine (purlinlaw0_SameInts.calls kj52 _ _ t648 _ _ x9_1 false _ ?side1 ?side2 ?side3 ?side4 A58.out).mono ?_); (case side1 => repeat (first | exact (Kd.R_reads' HO650.out).2.2 | (with_reducible refine Kd.C_alloc ?_ _) | (with_reducible refine Kd.C_drewN ?_ _) | (with_reducible refine Kd.C_drew ?_))); (case side2 => exact (Kd.R_reads' HO650.out).2.1); (case side3 => repeat (first | exact (Kd.R_reads' HO_9.out).2.2 | (with_reducible refine Kd.C_alloc ?_ _) | (with_reducible refine Kd.C_drewN ?_ _) | (with_reducible refine Kd.C_drew ?_))); (case side4 => exact (Kd.R_reads' HO_9.out).2.1); rintro e w' ⟨rfl, ⟨nd, rfl⟩⟩))
                      go_ret
                      exact ⟨by first | rfl | (simp [errW_none, errW_some] <;> rfl) | (simp [*, errW_none, errW_some] <;> rfl), by repeat (first | (with_reducible first | exact HB.out | apply below_alloc | apply pw_below_drewN | apply below_drew1) | exact HB.out)⟩
                  · replace c56 := Bool.eq_false_iff.mpr c56
                    subst c56
                    have H1 : ((purlinlaw11_awake.f kj52).bind fun t657 => (some t657)) = some r := by rw [if_neg (show ¬ (false = true) by decide)] at H; exact H
                    clear H
                    have H := H1
                    clear H1
                    replace H := Option.bind_eq_some_iff.mp H
                    obtain ⟨t657, A940, H⟩ := H
                    replace H : (some t657) = some r := H
                    have A94 := Aside0.mk A940
                    clear A940
                    obtain rfl := Option.some.inj H
                    go_wp2_with (first | (go_at_call 56; (with_reducible refine (purlinlaw11_awake.calls kj52  t657 _ A94.out).mono ?_); rintro e w95 ⟨rfl, hb⟩; have n0_ := Aside0.mk (Kd.R_below (by (with_reducible repeat (first | apply Kd.R_alloc | apply Kd.R_drewN | apply Kd.R_drew)); exact HO_9.out) hb); have n1_ := Aside0.mk (Kd.R_below (by (with_reducible repeat (first | apply Kd.R_alloc | apply Kd.R_drewN | apply Kd.R_drew)); exact HO_10.out) hb); have n2_ := Aside0.mk (Kd.R_below (by (with_reducible repeat (first | apply Kd.R_alloc | apply Kd.R_drewN | apply Kd.R_drew)); exact HO_14.out) hb); have n3_ := Aside0.mk (Kd.R_below (by (with_reducible repeat (first | apply Kd.R_alloc | apply Kd.R_drewN | apply Kd.R_drew)); exact HO_15.out) hb); have n4_ := Aside0.mk (below_step (by repeat (first | (with_reducible first | exact HB.out | apply below_alloc | apply pw_below_drewN | apply below_drew1) | exact HB.out)) hb); clear HO_9; clear HO_10; clear HO_14; clear HO_15; clear HB; have HO_9 := n0_; have HO_10 := n1_; have HO_14 := n2_; have HO_15 := n3_; have HB := n4_; clear n0_ n1_ n2_ n3_ n4_; (try clear hb); (try clear hb2); (try clear hk); (try clear hi)))
                    go_ret
                    exact ⟨by first | rfl | (simp [errW_none, errW_some] <;> rfl) | (simp [*, errW_none, errW_some] <;> rfl), by repeat (first | (with_reducible first | exact HB.out | apply below_alloc | apply pw_below_drewN | apply below_drew1) | exact HB.out)⟩

/-- THE ONE PURE STATEMENT of purlinlaw11_GroupWidths: yours. -/
def purlinlaw11_GroupWidths.Pure : Prop := ∀ (a0 : Int) (a1 : Int) (a2 : Int) (a3 : Int), (Lit.int .i64 a0).wf = true → (Lit.int .i64 a1).wf = true → (Lit.int .i64 a2).wf = true → (Lit.int .i64 a3).wf = true → ∃ k, purlinlaw11_GroupWidths.f k a0 a1 a2 a3 = some true
theorem purlinlaw11_GroupWidths.walk (P : purlinlaw11_GroupWidths.Pure) (a0 : Int) (a1 : Int) (a2 : Int) (a3 : Int) (w : World) (w0 : (Lit.int .i64 a0).wf = true) (w1 : (Lit.int .i64 a1).wf = true) (w2 : (Lit.int .i64 a2).wf = true) (w3 : (Lit.int .i64 a3).wf = true) :
    Calls Try.prog 17 #[.int .i64 a0, .int .i64 a1, .int .i64 a2, .int .i64 a3] w fun e w' => e = .returned (.bool true) ∧ Below w.heap.size w w' := by
  obtain ⟨k, h⟩ := P a0 a1 a2 a3 w0 w1 w2 w3
  refine (purlinlaw11_GroupWidths.calls k a0 a1 a2 a3 true w h).mono ?_
  rintro e w' ⟨rfl, hd⟩
  exact ⟨rfl, hd⟩

end Go.Proofs.Ytnhpmmmkcemnmaa.Pc
