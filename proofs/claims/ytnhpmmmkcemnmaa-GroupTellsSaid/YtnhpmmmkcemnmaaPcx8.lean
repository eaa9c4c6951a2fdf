-- Laid by a program of this session (the kit's printer, with hand-written parts): not trusted: Lean checks it.
import Derived.Test.YtnhpmmmkcemnmaaPcx0
namespace Go.Proofs.Ytnhpmmmkcemnmaa.Pc
open Go.RowKit Go.Proofs.YtnhpmmmkcemnmaaW.PrintWords Go.Proofs.YtnhpmmmkcemnmaaW.PrintLast Go.Proofs.YtnhpmmmkcemnmaaW.PrintMore
attribute [local go_sem] max2_int min2_int max_two min_two max_three min_three max_four min_four   -- for this text's walks alone
set_option linter.unusedVariables false
set_option linter.unusedSimpArgs false

/-! ### bits_Has: function 39 -/
def bits_Has.f (l0 : List Int) (a1 : Int) : Option (Bool) := if a1 ≥ 0 then (if (wrap64 (Int.tdiv a1 8)) < (l0.length : Int) then (if 0 ≤ (wrap64 (Int.tdiv a1 8)) then (if 0 ≤ (Int.tmod a1 8) then (some ((Go.bits .and .u8 (shr .u8 (rd l0 (wrap64 (Int.tdiv a1 8))) (Int.tmod a1 8)) 1) == 1)) else (none)) else (none)) else (some false)) else (some false)
set_option maxHeartbeats 8000000 in
set_option maxRecDepth 100000 in
theorem bits_Has.calls (A0 : Option Addr) (c0 : Nat) (l0 : List Int) (a1 : Int) (r : Bool) (w : World) (hr0 : Kd.C (Kd.int .u8) w A0 l0.length l0) (hc0 : l0.length ≤ c0) (h : bits_Has.f l0 a1 = some r) :
    Calls Try.prog 39 #[.slice A0 l0.length c0, .int .i64 a1] w fun e w' => e = .returned (.bool r) ∧ Drawn0 w w' := by
  have HR0 := Aside0.mk hr0
  have HC0 := Aside0.mk hc0
  clear hr0 hc0
  have H : (if a1 ≥ 0 then (if (wrap64 (Int.tdiv a1 8)) < (l0.length : Int) then (if 0 ≤ (wrap64 (Int.tdiv a1 8)) then (if 0 ≤ (Int.tmod a1 8) then (some ((Go.bits .and .u8 (shr .u8 (rd l0 (wrap64 (Int.tdiv a1 8))) (Int.tmod a1 8)) 1) == 1)) else (none)) else (none)) else (some false)) else (some false)) = some r := h
  clear h
  by_cases c3 : a1 ≥ 0
  · rw [if_pos c3] at H
    have c3b0 : decide (0 ≤ a1) = true := decide_eq_true c3
    clear c3
    by_cases c4 : (wrap64 (Int.tdiv a1 8)) < (l0.length : Int)
    · rw [if_pos c4] at H
      have c4b0 : decide ((wrap64 (Int.tdiv a1 8)) < (l0.length : Int)) = true := decide_eq_true c4
      clear c4
      obtain ⟨ji5, hji5⟩ : ∃ j_ : Int, (wrap64 (Int.tdiv a1 8)) = j_ := ⟨_, rfl⟩
      replace H : (if 0 ≤ (ji5) then (if 0 ≤ (Int.tmod a1 8) then (some ((Go.bits .and .u8 (shr .u8 (rd l0 (ji5)) (Int.tmod a1 8)) 1) == 1)) else (none)) else (none)) = some r := by first | (rw [hji5] at H; exact H) | (simp only [hji5] at H ⊢; exact H)
      (try rw [hji5] at c4b0)
      have hji5w : (IntKind.i64.wrap (Int.tdiv a1 8)) = ji5 := (i64_w _).trans hji5
      by_cases c6 : 0 ≤ (ji5)
      · rw [if_pos c6] at H
        have c6b0 : decide (0 ≤ (ji5)) = true := decide_eq_true c6
        clear c6
        obtain ⟨ji7, hji7⟩ : ∃ j_ : Int, (Int.tmod a1 8) = j_ := ⟨_, rfl⟩
        replace H : (if 0 ≤ (ji7) then (some ((Go.bits .and .u8 (shr .u8 (rd l0 (ji5)) (ji7)) 1) == 1)) else (none)) = some r := by first | (rw [hji7] at H; exact H) | (simp only [hji7] at H ⊢; exact H)
        by_cases c8 : 0 ≤ (ji7)
        · rw [if_pos c8] at H
          have c8b0 := eq_true c8
          have c8b1 : decide (0 ≤ (ji7)) = true := decide_eq_true c8
          clear c8
          obtain ⟨ji9, hji9⟩ : ∃ j_ : Int, (shr .u8 (rd l0 (ji5)) (ji7)) = j_ := ⟨_, rfl⟩
          replace H : (some ((Go.bits .and .u8 (ji9) 1) == 1)) = some r := by first | (rw [hji9] at H; exact H) | (simp only [hji9] at H ⊢; exact H)
          have hji9_ : ((rd l0 (ji5)) / 2 ^ min (ji7).toNat 8) = ji9 := hji9
          have hji9z : (ji7) ≤ 8 → ((rd l0 (ji5)) / 2 ^ (ji7).toNat) = ji9 := shr_small hji9
          obtain rfl := Option.some.inj H
          have p226 : 0 ≤ ((ji5) : Int) := of_decide_eq_true (by first | (with_reducible assumption) | assumption)
          have q226 : (ji5) < (l0.length : Int) := of_decide_eq_true (by first | (with_reducible assumption) | assumption)
          obtain ⟨ad226, e226, hx226_0⟩ := Kd.at_int HR0.out (ji5) p226 q226
          cases e226
          replace p226 := eq_true p226
          replace q226 := eq_true q226
          go_enter Try.func39, Try.ntmps39
          go_wp2
          go_ret
          exact ⟨by first | rfl | (simp; done) | (simp only [← hji5, ← hji7, ← hji9] <;> (first | rfl | simp)) | (simp [*]; done), by repeat (first | exact Drawn0.refl _ | apply Drawn0.step)⟩
        · rw [if_neg c8] at H
          exact absurd H (by simp)
      · rw [if_neg c6] at H
        exact absurd H (by simp)
    · rw [if_neg c4] at H
      have c4b0 : decide ((wrap64 (Int.tdiv a1 8)) < (l0.length : Int)) = false := decide_eq_false c4
      clear c4
      obtain rfl := Option.some.inj H
      go_enter Try.func39, Try.ntmps39
      go_wp2
      go_ret
      exact ⟨by first | rfl | (simp; done) | (simp [*]; done), by repeat (first | exact Drawn0.refl _ | apply Drawn0.step)⟩
  · rw [if_neg c3] at H
    have c3b0 : decide (0 ≤ a1) = false := decide_eq_false c3
    clear c3
    obtain rfl := Option.some.inj H
    go_enter Try.func39, Try.ntmps39
    go_wp2
    go_ret
    exact ⟨by first | rfl | (simp; done) | (simp [*]; done), by repeat (first | exact Drawn0.refl _ | apply Drawn0.step)⟩

/-! ### bits_Run: function 38 -/
def bits_Run.free (l : List Int) : Nat → Int → Option Bool
  | 0, _ => some true
  | m + 1, q => if q < 8 * (l.length : Int) then ((bits_Has.f l q).bind fun b => if b = true then some false else bits_Run.free l m (q + 1)) else some true
def bits_Run.go (l : List Int) (long : Int) : Nat → Int → Option Int
  | 0, _ => some (-1)
  | m + 1, i => (bits_Run.free l long.toNat i).bind fun b => if b = true then some i else bits_Run.go l long m (i + 1)
def bits_Run.f (l0 : List Int) (a1 : Int) (a2 : Int) (a3 : Int) : Option Int := if a1 < 0 then some (-1) else if a3 < 1 then some (-1) else if a2 < a3 then some (-1) else if l0.length < 140737488355328 then (if a2 ≤ 9223372036854775807 then bits_Run.go l0 a3 (a2 - a3 + 1 - a1).toNat a1 else none) else none
set_option maxHeartbeats 1600000 in
set_option maxRecDepth 100000 in
theorem bits_Run.calls (A0 : Option Addr) (c0 : Nat) (l0 : List Int) (a1 : Int) (a2 : Int) (a3 : Int) (r : Int) (w : World) (hr0 : Kd.C (Kd.int .u8) w A0 l0.length l0) (hc0 : l0.length ≤ c0) (h : bits_Run.f l0 a1 a2 a3 = some r) :
    Calls Try.prog 38 #[.slice A0 l0.length c0, .int .i64 a1, .int .i64 a2, .int .i64 a3] w fun e w' => e = .returned (.int .i64 r) ∧ Drawn0 w w' := by
  have HR0 := Aside0.mk hr0
  have HC0 := Aside0.mk hc0
  clear hr0 hc0
  unfold bits_Run.f at h
  by_cases c1 : a1 < 0
  · rw [if_pos c1] at h
    obtain rfl := Option.some.inj h
    go_enter Try.func38, Try.ntmps38
    go_wp2
    go_step3
    go_wp2
    (try rw [Exit.noGoto_ret])
    go_ret
    exact ⟨rfl, Drawn0.refl _⟩
  · rw [if_neg c1] at h
    by_cases c2 : a3 < 1
    · rw [if_pos c2] at h
      obtain rfl := Option.some.inj h
      go_enter Try.func38, Try.ntmps38
      go_wp2
      go_step3
      go_wp2
      (try rw [Exit.noGoto_ret])
      go_ret
      exact ⟨rfl, Drawn0.refl _⟩
    · rw [if_neg c2] at h
      by_cases c3 : a2 < a3
      · rw [if_pos c3] at h
        obtain rfl := Option.some.inj h
        go_enter Try.func38, Try.ntmps38
        go_wp2
        go_step3
        go_wp2
        (try rw [Exit.noGoto_ret])
        go_ret
        exact ⟨rfl, Drawn0.refl _⟩
      · rw [if_neg c3] at h
        by_cases c4 : l0.length < 140737488355328
        · rw [if_pos c4] at h
          by_cases c5 : a2 ≤ 9223372036854775807
          · rw [if_pos c5] at h
            have H := Aside0.mk h
            clear h
            have c1b : decide (a1 < 0) = false := decide_eq_false c1
            have c2b : decide (a3 < 1) = false := decide_eq_false c2
            have c3b : decide (a2 < a3) = false := decide_eq_false c3
            have C4 := Aside0.mk c4
            clear c4
            have d1 : 0 ≤ a1 := by omega
            have d2 : 1 ≤ a3 := by omega
            have d3 : a3 ≤ a2 := by omega
            clear c1 c2 c3
            go_enter Try.func38, Try.ntmps38
            go_wp2
            go_step3
            go_wp2
            go_step3
            go_wp2
            go_loopg [9, 10] (a2 - a3 + 1 - a1).toNat (fun gk v9 v10 w' => ∃ i : Int, v9 = .int .i64 i ∧ Aside0 (0 ≤ i ∧ gk = (a2 - a3 + 1 - i).toNat) ∧ Aside0 (bits_Run.go l0 a3 gk i = some r) ∧ Aside0 (Drawn0 w w'))
            case atStart => exact ⟨a1, rfl, ⟨d1, rfl⟩, H, ⟨Drawn0.refl _⟩⟩
            case round =>
              clear H
              obtain ⟨i, rfl, HI, HA, HB⟩ := hrel
              cases gk with
              | zero =>
                have H := HA.out
                simp only [bits_Run.go] at H
                obtain rfl := Option.some.inj H
                have hi := HI.out
                have e1 : a2 - a3 < i := by omega
                have e2 : decide (i ≤ a2 - a3) = false := decide_eq_false (by omega)
                clear hi
                go_wp2
                (try rw [Exit.noGoto_ret])
                go_ret
                exact ⟨rfl, HB.out⟩
              | succ m =>
                have H := HA.out
                clear HA
                simp only [bits_Run.go] at H
                replace H := Option.bind_eq_some_iff.mp H
                obtain ⟨b, hb, H⟩ := H
                have hi := HI.out
                have e0 : 0 ≤ i := hi.1
                have e1 : i ≤ a2 - a3 := by omega
                have e2 : decide (i ≤ a2 - a3) = true := decide_eq_true (by omega)
                have HF := Aside0.mk hb
                have HN := Aside0.mk H
                clear hi hb H
                go_wp2
                obtain ⟨wo, rfl⟩ : ∃ wo : World, wo = wr := ⟨_, rfl⟩
                go_loopg [10] a3.toNat (fun gk v10 w' => ∃ q : Int, v10 = .int .i64 q ∧ Aside0 (i ≤ q ∧ q ≤ i + a3 ∧ gk = (i + a3 - q).toNat) ∧ Aside0 (bits_Run.free l0 gk q = some b) ∧ Aside0 (Drawn0 w w'))
                case atStart => exact ⟨i, rfl, ⟨by omega, by omega, by omega⟩, HF, HB⟩
                case round =>
                  clear HF HB
                  obtain ⟨q, rfl, HQ, HF, HB2⟩ := hrel
                  have c4 := C4.out
                  have hq := HQ.out
                  have f0 : i ≤ q := hq.1
                  have f1 : q ≤ i + a3 := hq.2.1
                  cases gk with
                  | zero =>
                    have H := HF.out
                    simp only [bits_Run.free] at H
                    obtain rfl := Option.some.inj H
                    have H2 := HN.out
                    rw [if_pos rfl] at H2
                    obtain rfl := Option.some.inj H2
                    have f2 : i + a3 ≤ q := by omega
                    have f3 : decide (q < i + a3) = false := decide_eq_false (by omega)
                    clear hq
                    go_wp2
                    (try rw [Exit.noGoto_ret])
                    go_ret
                    exact ⟨rfl, HB2.out⟩
                  | succ m2 =>
                    have H := HF.out
                    clear HF
                    simp only [bits_Run.free] at H
                    have f2 : q < i + a3 := by omega
                    have f3 : decide (q < i + a3) = true := decide_eq_true (by omega)
                    have HQ2 := Aside0.mk hq
                    clear hq HQ
                    by_cases c6 : q < 8 * (l0.length : Int)
                    · rw [if_pos c6] at H
                      replace H := Option.bind_eq_some_iff.mp H
                      obtain ⟨hb, h1, H⟩ := H
                      have HH := Aside0.mk h1
                      clear h1
                      have f4 : decide (q < 8 * (l0.length : Int)) = true := decide_eq_true c6
                      cases hb with
                      | true =>
                        rw [if_pos rfl] at H
                        obtain rfl := Option.some.inj H
                        have H2 := HN.out
                        rw [if_neg (by decide)] at H2
                        have H3 := Aside0.mk H2
                        clear HN H2
                        go_wp2_with fail
                        refine (bits_Has.calls _ _ l0 q true _ (Kd.C_below HR0.out HB2.out.below) HC0.out HH.out).mono ?_
                        rintro e w' ⟨rfl, ⟨nd, rfl⟩⟩
                        go_wp2
                        go_roundg m
                        case measure => omega
                        case rel => exact ⟨i + 1, by first | rfl | go_num, ⟨by omega, by have := HI.out.2; omega⟩, H3, ⟨HB2.out.step nd⟩⟩
                      | false =>
                        rw [if_neg (by decide)] at H
                        have H3 := Aside0.mk H
                        clear H
                        go_wp2_with fail
                        refine (bits_Has.calls _ _ l0 q false _ (Kd.C_below HR0.out HB2.out.below) HC0.out HH.out).mono ?_
                        rintro e w' ⟨rfl, ⟨nd, rfl⟩⟩
                        go_wp2
                        go_roundg m2
                        case measure => omega
                        case rel => exact ⟨q + 1, by first | rfl | go_num, ⟨by omega, by omega, by have := HQ2.out.2.2; omega⟩, H3, ⟨HB2.out.step nd⟩⟩
                    · rw [if_neg c6] at H
                      obtain rfl := Option.some.inj H
                      have H2 := HN.out
                      rw [if_pos rfl] at H2
                      obtain rfl := Option.some.inj H2
                      have f4 : decide (q < 8 * (l0.length : Int)) = false := decide_eq_false c6
                      go_wp2
                      (try rw [Exit.noGoto_ret])
                      go_ret
                      exact ⟨rfl, HB2.out⟩
          · rw [if_neg c5] at h
            cases h
        · rw [if_neg c4] at h
          cases h

/-! ### bits_First: function 40 -/
def bits_First.l0 : Nat → List Int → Int → Int → Option (Int)
  | 0, _, _, _ => none
  | k + 1, x0, x2, x7 => if x7 < x2 then ((bits_Has.f x0 x7).bind fun t227 => (if t227 = true then (bits_First.l0 k x0 x2 (wrap64 (x7 + 1))) else (some x7))) else (some (-1))
def bits_First.f (k : Nat) (l0 : List Int) (a1 : Int) (a2 : Int) : Option (Int) := bits_First.l0 k l0 a2 (mx a1 0)
theorem bits_First.mono_l : ∀ k, (∀ y0 y1 y2, LeO (bits_First.l0 k y0 y1 y2) (bits_First.l0 (k + 1) y0 y1 y2))
  | 0 => fun _ _ _ r h => by simp [bits_First.l0] at h
  | k + 1 => by
    have ih0 := bits_First.mono_l k
    · intro y0 y1 y2
      unfold bits_First.l0
      repeat' first
      | (with_reducible exact ih0 _ _ _)
      | (with_reducible exact LeO.refl _)
      | (with_reducible exact LeO.none _)
      | (with_reducible refine LeO.ite ?_ ?_)
      | (with_reducible refine LeO.bind ?_ (fun _ => ?_))
      | exact ih0 _ _ _
      | exact LeO.none _
      | refine LeO.ite ?_ ?_
      | refine LeO.bind ?_ (fun _ => ?_)
theorem bits_First.mono : ∀ a0 a1 a2 k, LeO (bits_First.f k a0 a1 a2) (bits_First.f (k + 1) a0 a1 a2) := by
  intro a0 a1 a2 k
  have ih0 := bits_First.mono_l k
  unfold bits_First.f
  repeat' first
      | (with_reducible exact ih0 _ _ _)
      | (with_reducible exact LeO.refl _)
      | (with_reducible exact LeO.none _)
      | (with_reducible refine LeO.ite ?_ ?_)
      | (with_reducible refine LeO.bind ?_ (fun _ => ?_))
      | exact ih0 _ _ _
      | exact LeO.none _
      | refine LeO.ite ?_ ?_
      | refine LeO.bind ?_ (fun _ => ?_)
set_option maxHeartbeats 8000000 in
set_option maxRecDepth 100000 in
theorem bits_First.calls (k : Nat) (A0 : Option Addr) (c0 : Nat) (l0 : List Int) (a1 : Int) (a2 : Int) (r : Int) (w : World) (hr0 : Kd.C (Kd.int .u8) w A0 l0.length l0) (hc0 : l0.length ≤ c0) (h : bits_First.f k l0 a1 a2 = some r) :
    Calls Try.prog 40 #[.slice A0 l0.length c0, .int .i64 a1, .int .i64 a2] w fun e w' => e = .returned (.int .i64 r) ∧ Below w.heap.size w w' := by
  have HR0 := Aside0.mk hr0
  have HC0 := Aside0.mk hc0
  clear hr0 hc0
  have HB := Aside0.mk (Below.refl w.heap.size w)
  have H : (bits_First.l0 k l0 a2 (mx a1 0)) = some r := h
  clear h
  obtain ⟨ji4, hji4⟩ : ∃ j_ : Int, (mx a1 0) = j_ := ⟨_, rfl⟩
  replace H : (bits_First.l0 k l0 a2 ji4) = some r := by first | (rw [hji4] at H; exact H) | (simp only [hji4] at H ⊢; exact H)
  (try (have hji4l : 0 ≤ ji4 := by (rw [← hji4]; unfold mx; (repeat' split) <;> omega)))
  (try (have hji4m : 0 ≤ ji4 := by omega))
  have hji4_ : (if a1 < 0 then 0 else a1) = ji4 := hji4
  have H' := Aside0.mk H
  clear H
  go_enter Try.func40, Try.ntmps40
  go_wp2
  go_loopg [7] k (fun kq v7 w' => ∃ (x7_1 : Int), v7 = .int .i64 x7_1 ∧ Aside0 (bits_First.l0 kq l0 a2 x7_1 = some r) ∧ Aside0 (kq ≤ k) ∧ Aside0 (Below w.heap.size w w'))
  case atStart => exact ⟨(ji4), (by first | rfl | (simp; done) | (simp only [← hji4] <;> (first | rfl | simp)) | (simp [*]; done)), H', ⟨Nat.le_refl _⟩, ⟨by repeat (first | (with_reducible first | exact HB.out | apply below_alloc | apply pw_below_drewN | apply below_drew1) | exact HB.out)⟩⟩
  case round =>
    clear H'
    try clear p2
    try clear c4
    obtain ⟨x7_1, rfl, HA, HK1, HB⟩ := hrel
    cases gk with
    | zero => exact absurd HA.out (by simp [bits_First.l0])
    | succ k1 =>
      have H := HA.out
      clear HA
      simp only [bits_First.l0] at H
      by_cases c5 : x7_1 < a2
      · rw [if_pos c5] at H
        have c5b0 : decide (x7_1 < a2) = true := decide_eq_true c5
        clear c5
        replace H := Option.bind_eq_some_iff.mp H
        obtain ⟨t227, A60, H⟩ := H
        replace H : (if t227 = true then (bits_First.l0 k1 l0 a2 (wrap64 (x7_1 + 1))) else (some x7_1)) = some r := H
        have A6 := Aside0.mk A60
        clear A60
        by_cases c7 : t227 = true
        · subst c7
          have H1 : (bits_First.l0 k1 l0 a2 (wrap64 (x7_1 + 1))) = some r := by rw [if_pos rfl] at H; exact H
          clear H
          have H := H1
          clear H1
          have H' := Aside0.mk H
          clear H
          go_wp2_with (first | ((with_reducible refine gate_callee (f := 39) rfl ?_); refine goesL_ (some 17) rfl rfl Try.func39 (by kernel_rfl) rfl #[.slice A0 l0.length c0, .int .i64 x7_1] rfl (by (try simp only [List.map_toArray, List.map_cons, List.map_nil]); first | done | rfl | (simp only [List.length_drop, List.length_take]; rfl)) ?_; (with_reducible refine (bits_Has.calls _ _ l0 x7_1 true _ ?side1 ?side2 A6.out).mono ?_); (case side1 => repeat (first | exact (Kd.C_below HR0.out HB.out) | (with_reducible refine Kd.C_alloc ?_ _) | (with_reducible refine Kd.C_drewN ?_ _) | (with_reducible refine Kd.C_drew ?_))); (case side2 => exact HC0.out); rintro e w' ⟨rfl, ⟨nd, rfl⟩⟩; refine ⟨_, rfl, ?_⟩))
          go_roundg k1
          case measure => have := HK1.out; omega
          case rel => exact ⟨(wrap64 (x7_1 + 1)), (by first | rfl | (simp; done) | (simp [*]; done)), H', ⟨by have := HK1.out; omega⟩, ⟨by repeat (first | (with_reducible first | exact HB.out | apply below_alloc | apply pw_below_drewN | apply below_drew1) | exact HB.out)⟩⟩
        · replace c7 := Bool.eq_false_iff.mpr c7
          subst c7
          have H1 : (some x7_1) = some r := by rw [if_neg (show ¬ (false = true) by decide)] at H; exact H
          clear H
          have H := H1
          clear H1
          obtain rfl := Option.some.inj H
          go_wp2_with (first | ((with_reducible refine gate_callee (f := 39) rfl ?_); refine goesL_ (some 17) rfl rfl Try.func39 (by kernel_rfl) rfl #[.slice A0 l0.length c0, .int .i64 x7_1] rfl (by (try simp only [List.map_toArray, List.map_cons, List.map_nil]); first | done | rfl | (simp only [List.length_drop, List.length_take]; rfl)) ?_; (with_reducible refine (bits_Has.calls _ _ l0 x7_1 false _ ?side1 ?side2 A6.out).mono ?_); (case side1 => repeat (first | exact (Kd.C_below HR0.out HB.out) | (with_reducible refine Kd.C_alloc ?_ _) | (with_reducible refine Kd.C_drewN ?_ _) | (with_reducible refine Kd.C_drew ?_))); (case side2 => exact HC0.out); rintro e w' ⟨rfl, ⟨nd, rfl⟩⟩; refine ⟨_, rfl, ?_⟩))
          go_ret
          exact ⟨by first | rfl | (simp [errW_none, errW_some] <;> rfl) | (simp only [← hji4]; first | rfl | (simp [errW_none, errW_some] <;> rfl)) | (simp [*, errW_none, errW_some] <;> rfl), by repeat (first | (with_reducible first | exact HB.out | apply below_alloc | apply pw_below_drewN | apply below_drew1) | exact HB.out)⟩
      · rw [if_neg c5] at H
        have c5b0 : decide (x7_1 < a2) = false := decide_eq_false c5
        clear c5
        obtain rfl := Option.some.inj H
        go_wp2
        go_ret
        exact ⟨by first | rfl | (simp [errW_none, errW_some] <;> rfl) | (simp only [← hji4]; first | rfl | (simp [errW_none, errW_some] <;> rfl)) | (simp [*, errW_none, errW_some] <;> rfl), by repeat (first | (with_reducible first | exact HB.out | apply below_alloc | apply pw_below_drewN | apply below_drew1) | exact HB.out)⟩

end Go.Proofs.Ytnhpmmmkcemnmaa.Pc
