/- slices.Grow and slices.Concat of numbers: their walks, by hand, for two rows. -/
import Derived.Test.YtnhpmmmkcemnmaaHp
namespace Go.Proofs.Ytnhpmmmkcemnmaa.Pc
open Go.RowKit Go.Proofs.YtnhpmmmkcemnmaaW.PrintWords Go.Proofs.YtnhpmmmkcemnmaaW.PrintLast Go.Proofs.YtnhpmmmkcemnmaaW.PrintMore
set_option linter.unusedVariables false
set_option linter.unusedSimpArgs false

/-- A row cut to nothing is a row of nothing. -/
theorem R_cut0 {w : World} {base : Nat} {ok : Nat → Prop} {A : Option Addr} {n c : Nat} {xs : List Int} (h : Kd.R (Kd.int .i64) 3 w base ok (.slice A n c) xs) : Kd.R (Kd.int .i64) 3 w base ok (.slice A 0 c) [] := by
  have ho := Kd.own_of_R h
  refine Kd.R_of_own (enc := Value.int .i64) (h1 := fun _ => rfl) ?_ (fun k hk => ?_)
  · rcases ho.2 with ⟨hv, _⟩ | ⟨g, cap, cur, hv, hb, hh, hn, hm, hs, ht⟩
    · refine ⟨by simp [encs], .inl ⟨?_, by simp [encs]⟩⟩
      injection hv with h1 h2 h3
      subst h1
      subst h3
      rfl
    · injection hv with h1 h2 h3
      subst h1
      subst h3
      refine ⟨by simp [encs], .inr ⟨g, c, cur, rfl, hb, hh, Nat.zero_le _, hm, hs, ?_⟩⟩
      simp [encs]
  · exact h.1 k (by cases A with | none => simp [Value.ownBlock] at hk | some x => simpa [Value.ownBlock] using hk)

set_option maxHeartbeats 1600000 in
set_option maxRecDepth 100000 in
theorem slices_Grow.calls (n : Nat) (w : World) (h0 : 0 < n) (hn : n ≤ 1000) :
    Calls Try.prog 89 #[.slice none 0 0, .int .i64 (n : Int)] w fun e w' => ∃ v : Value, e = .returned v ∧ Kd.R (Kd.int .i64) 3 w' w.heap.size (fun _ => True) v [] ∧ Below w.heap.size w w' := by
  have HB := Aside0.mk (Below.refl w.heap.size w)
  have HN := Aside0.mk hn
  have d1 : decide ((n : Int) < 0) = false := decide_eq_false (by omega)
  have d2 : decide (0 < (n : Int)) = true := decide_eq_true (by omega)
  have d3 : (0 : Int) ≤ (n : Int) := by omega
  have d5 : decide (0 < n) = true := decide_eq_true h0
  have d4 : (n : Int) ≤ 1000 := by omega
  clear hn h0
  go_enter Try.func89, Try.ntmps89
  go_wp2_with (first | ((with_reducible refine gate_dst (N := 22) rfl ?_); refine Kd.R_append_zeros (Kd.int .i64) (w0 := w) w.heap.size rfl (.tmp 20) (.tmp 21) 42 3 3 (.int .i64 0) 8 rfl Try.underlying42 Try.underlying3 info3 rfl (by decide) (by omega) (.slice none 0 0) [] 0 (n : Int) (fun _ => True) rfl rfl rfl (fun _ _ => trivial) (Kd.R_nil _ _ _ _ _) (by omega) HB.out (Nat.le_refl _) (by have := HN.out; simp; omega) ?_; intro v1 w1 hr hb _hg _ha; have HR1 := Aside0.mk hr; have B1 := Aside0.mk hb; clear hr hb _hg _ha; obtain ⟨A1, c1, e1⟩ := Kd.R_slice HR1.out; subst e1))
  go_ret
  exact ⟨_, rfl, R_cut0 HR1.out, B1.out⟩

set_option maxHeartbeats 3200000 in
set_option maxRecDepth 100000 in
theorem slices_Concat.calls (g : Nat) (A1 A2 : Option Addr) (c1 c2 : Nat) (xs ys : List Int) (w : World) (hg : w.heap[g]? = some (.cells #[.slice A1 xs.length c1, .slice A2 ys.length c2] 42 (0, 0)))
    (h1 : Kd.C (Kd.int .i64) w A1 xs.length xs) (h2 : Kd.C (Kd.int .i64) w A2 ys.length ys) (l1 : 0 < xs.length ∧ xs.length ≤ 100) (l2 : ys.length ≤ 100) :
    Calls Try.prog 83 #[.slice (some ⟨g, 0, none⟩) 2 2] w fun e w' => ∃ v : Value, e = .returned v ∧ Kd.R (Kd.int .i64) 3 w' w.heap.size (fun _ => True) v (xs ++ ys) ∧ Below w.heap.size w w' := by
  have HB := Aside0.mk (Below.refl w.heap.size w)
  have HG := Aside0.mk hg
  have H1 := Aside0.mk h1
  have H2 := Aside0.mk h2
  have L1 := Aside0.mk l1
  have L2 := Aside0.mk l2
  have hc0 : w.cell? ⟨g, 0, none⟩ = some (.slice A1 xs.length c1) := (blk_cell hg 0).trans rfl
  have hc1 : w.cell? ⟨g, 1, none⟩ = some (.slice A2 ys.length c2) := (blk_cell hg 1).trans rfl
  have HC0 := Aside0.mk hc0
  have HC1 := Aside0.mk hc1
  have GL := Aside0.mk (blk_lt hg)
  clear hg h1 h2 l1 l2 hc0 hc1
  go_enter Try.func83, Try.ntmps83
  go_wp2
  go_loopg [3, 11] 2 (fun gk v3 v11 w' => ∃ k n : Nat, v11 = .int .i64 (k : Int) ∧ v3 = .int .i64 (n : Int) ∧ Aside0 (k + gk = 2) ∧ Aside0 (n = (if k = 0 then 0 else if k = 1 then xs.length else xs.length + ys.length)) ∧ Aside0 (Below w.heap.size w w'))
  case atStart => exact ⟨0, 0, rfl, rfl, ⟨rfl⟩, ⟨rfl⟩, HB⟩
  case round =>
    obtain ⟨k, n, rfl, rfl, HK, HN, HW⟩ := hrel
    have hk := HK.out
    cases gk with
    | zero =>
      obtain rfl : k = 2 := by omega
      have hn := HN.out
      simp at hn
      have l1 := L1.out
      have l2 := L2.out
      have HN1 := Aside0.mk (show 0 < n ∧ n ≤ 1000 from by omega)
      have d1 : decide (((2 : Nat) : Int) < 2) = false := by decide
      clear hk hn l1 l2
      go_wp2_with fail
      refine (slices_Grow.calls n _ HN1.out.1 HN1.out.2).mono ?_
      rintro e1 w1 ⟨v1, rfl, hr, hB⟩
      have HR1 := Aside0.mk (Kd.R_lower hr HW.out.size)
      have B1 := Aside0.mk (below_step HW.out hB)
      clear hr hB
      go_wp2
      go_loopg [6, 27] 2 (fun gk v6 v27 w' => ∃ k : Nat, v27 = .int .i64 (k : Int) ∧ Aside0 (k + gk = 2) ∧ Aside0 (Kd.R (Kd.int .i64) 3 w' w.heap.size (fun _ => True) v6 (if k = 0 then [] else if k = 1 then xs else xs ++ ys)) ∧ Aside0 (Below w.heap.size w w'))
      case atStart => exact ⟨0, rfl, ⟨rfl⟩, HR1, B1⟩
      case round =>
        clear HR1 B1 HW
        obtain ⟨k, rfl, HK, HR, HW⟩ := hrel
        have hk := HK.out
        cases gk with
        | zero =>
          obtain rfl : k = 2 := by omega
          have d1 : decide (((2 : Nat) : Int) < 2) = false := by decide
          clear hk
          go_wp2
          go_ret
          exact ⟨_, rfl, HR.out, HW.out⟩
        | succ m =>
          have hkk : k = 0 ∨ k = 1 := by omega
          rcases hkk with rfl | rfl
          · have hc := pw_cell HW.out HC0.out GL.out
            clear hk
            go_wp2_with (first | ((with_reducible refine gate_dst (N := 33) rfl ?_); refine Kd.R_append_rows (Kd.int .i64) (w0 := w) w.heap.size rfl (.tmp 31) (.tmp 32) 42 3 (.int .i64 0) 8 rfl Try.underlying42 info3 rfl (by decide) (by omega) _ [] xs _ _ _ (fun _ => True) (fun _ => False) rfl rfl HR.out (Kd.C_below H1.out HW.out) (fun _ _ h => h) (fun _ h => h.elim) (fun _ _ => trivial) HW.out HW.out.size (by have := L1.out; simp; omega) ?_; intro v2 w2 hr hb _hg _ha; have HR2 := Aside0.mk hr; have HW2 := Aside0.mk hb; clear hr hb _hg _ha HR hc))
            go_roundg m
            case measure => have := HK.out; omega
            case rel => exact ⟨1, by first | rfl | go_num, ⟨by have := HK.out; omega⟩, HR2, HW2⟩
          · have hc := pw_cell HW.out HC1.out GL.out
            clear hk
            go_wp2_with (first | ((with_reducible refine gate_dst (N := 33) rfl ?_); refine Kd.R_append_rows (Kd.int .i64) (w0 := w) w.heap.size rfl (.tmp 31) (.tmp 32) 42 3 (.int .i64 0) 8 rfl Try.underlying42 info3 rfl (by decide) (by omega) _ xs ys _ _ _ (fun _ => True) (fun _ => False) rfl rfl HR.out (Kd.C_below H2.out HW.out) (fun _ _ h => h) (fun _ h => h.elim) (fun _ _ => trivial) HW.out HW.out.size (by have := L1.out; have := L2.out; omega) ?_; intro v2 w2 hr hb _hg _ha; have HR2 := Aside0.mk hr; have HW2 := Aside0.mk hb; clear hr hb _hg _ha HR hc))
            go_roundg m
            case measure => have := HK.out; omega
            case rel => exact ⟨2, by first | rfl | go_num, ⟨by have := HK.out; omega⟩, HR2, HW2⟩
    | succ m =>
      have hkk : k = 0 ∨ k = 1 := by omega
      have l1 := L1.out
      have l2 := L2.out
      rcases hkk with rfl | rfl
      · have hc := pw_cell HW.out HC0.out GL.out
        have hn := HN.out
        simp at hn
        subst hn
        have e1 : (0 : Int) + (xs.length : Int) = (xs.length : Int) := by omega
        have e2 : wrap64 (xs.length : Int) = (xs.length : Int) := by unfold wrap64; omega
        have e3 : decide ((xs.length : Int) < 0) = false := decide_eq_false (by omega)
        clear hk l1 l2
        go_wp2
        go_roundg m
        case measure => have := HK.out; omega
        case rel => exact ⟨1, xs.length, by first | rfl | go_num, by first | rfl | go_num, ⟨by have := HK.out; omega⟩, ⟨by simp⟩, HW⟩
      · have hc := pw_cell HW.out HC1.out GL.out
        have hn := HN.out
        simp at hn
        subst hn
        have e2 : wrap64 ((xs.length : Int) + (ys.length : Int)) = ((xs.length + ys.length : Nat) : Int) := by unfold wrap64; omega
        have e3 : decide (((xs.length + ys.length : Nat) : Int) < 0) = false := decide_eq_false (by omega)
        clear hk l1 l2
        go_wp2
        go_roundg m
        case measure => have := HK.out; omega
        case rel => exact ⟨2, xs.length + ys.length, by first | rfl | go_num, by first | rfl | go_num, ⟨by have := HK.out; omega⟩, ⟨by simp⟩, HW⟩
theorem slices_Concat.calls' (g : Nat) (A1 A2 : Option Addr) (n1 n2 c1 c2 : Nat) (xs ys : List Int) (w : World) (e1 : xs.length = n1) (e2 : ys.length = n2) (hg : w.heap[g]? = some (.cells #[.slice A1 n1 c1, .slice A2 n2 c2] 42 (0, 0)))
    (h1 : Kd.C (Kd.int .i64) w A1 n1 xs) (h2 : Kd.C (Kd.int .i64) w A2 n2 ys) (l1 : 0 < n1 ∧ n1 ≤ 100) (l2 : n2 ≤ 100) :
    Calls Try.prog 83 #[.slice (some ⟨g, 0, none⟩) 2 2] w fun e w' => ∃ v : Value, e = .returned v ∧ Kd.R (Kd.int .i64) 3 w' w.heap.size (fun _ => True) v (xs ++ ys) ∧ Below w.heap.size w w' := by
  subst e1
  subst e2
  exact slices_Concat.calls g A1 A2 c1 c2 xs ys w hg h1 h2 l1 l2
end Go.Proofs.Ytnhpmmmkcemnmaa.Pc
